/- What the calls do: each function once. -/
import Derived.Test.YtmcaielgjfpekaaNetsPlaysc3
namespace Go.Proofs
open Go.Gp
set_option linter.unusedVariables false
set_option maxHeartbeats 4000000 in
set_option maxRecDepth 20000 in
theorem hocketlaw23_NetsPlays.calls (K : Nat) (x0 : Int) (x1 : List Int) (p1_0 : Value) (x2 : List api_Msg) (p2_1 : Value) (r : Unit) (w0 w : World) (Z A : Mem) (hA : A.le Z) (hS : Sep w0 w [] Z) (hp1_0 : Rd (Kd.int .i64) A p1_0 x1) (hp2_1 : Rd k_api_Msg A p2_1 x2)
    (H : hocketlaw23_NetsPlays.f K x0 x1 x2 = some r) :
    Calls Try.prog 7 [iV x0, p1_0, p2_1].toArray w (Ret fun v w' => ∃ (N : Mem), v = .bool true ∧ Sep w0 w' [N] Z) := by
 unfold hocketlaw23_NetsPlays.f at H
 refine f_enter _ Try.func7 rfl Try.ntmps7 rfl fun a h=>?_
 replace h : Fr 404 a [(0, iV x0), (1, p1_0), (2, p2_1)] := h
 replace hS := hS.start
 refine qr <| sg h rfl fun a h=>nx <| qr <| mv h rfl fun a h=>s_bits (i := x0) (j := 7) (r := band .i64 x0 7) h rfl rfl rfl (.inl ⟨rfl, rfl⟩) fun a h=>s_arith (r := w64 ((band .i64 x0 7) + 0)) h rfl rfl rfl (.inl ⟨rfl, rfl⟩) fun a h=>sg h rfl fun a h=>wpList_nil <| x_then_n ?_
 refine qr <| mv h rfl fun a h=>?_
 obtain ⟨t_1, et_1, H⟩ := bs H
 refine s_call h rfl Try.call9 rfl (nets_New.calls (w64 ((band .i64 x0 7) + 0)) t_1 w0 _ _ _ mr (hS.enter [] (by decide))  et_1) ?_
 rintro _ w_1 ⟨g_1, v_1, N_1, M_1, rfl, hS', hr_1⟩
 intro a h
 obtain ⟨N_2, hS'', le_1, ln_1⟩ := hS.call [] (by decide) rfl (l' := []) (ow := [_, _]) rfl hS'
 replace hS : Sep w0 w_1 [N_2, _, _] Z := hS''
 refine sg h rfl fun a h=>nx <| c_seq fun KJ_1 hKJ_1 => qr <| mv h rfl fun a h=>s_ptrNil (b := false) h rfl U23 rfl (.inl ⟨rfl, rfl⟩) fun a h=>wpList_nil ?_
 replace h : Fr 404 a [(0, iV (w64 ((band .i64 x0 7) + 0))), (1, _), (2, _), (6, .bool false), (7, .pointer (some ⟨g_1, 0, none⟩)), (32, .bool false)] := h.keep [0, 1, 2, 6, 7, 32]
 refine x_then_n <| c_cond_f h rfl rfl <| wp_skip <| x_then_n (hKJ_1 _ _ ?_)
 refine qr <| mv h rfl fun a h=>s_max h rfl rfl rfl fun a h=>sg h rfl fun a h=>nx <| qr <| sg h rfl fun a h=>nx <| wp_seq ?_
 refine wp_region_lit <| sg h rfl fun a h=>nx <| c_seq fun KJ_2 hKJ_2 => qr <| sg h rfl fun a h=>wpList_nil ?_
 replace h : Fr 404 a [(0, iV (mx (w64 ((band .i64 x0 7) + 0)) 1)), (1, _), (2, _), (6, _), (7, _), (8, nS), (9, iV 0), (10, iV 0)] := h.keep [0, 1, 2, 6, 7, 8, 9, 10]
 refine x_then_n ?_
 have hJ_j_1 : hocketlaw23_NetsPlays.J1 K = some r → ∀ (a : Act) (w_2 : World), (∃ (N_3 : Mem), Fr 404 a [(6, .bool false)] ∧ Sep w0 w_2 [N_3, Mem.no, Mem.no] Z ∧ N_2.le N_3) → KJ_2 a w_2 := by
  clear H h hS a
  rintro H a w_2 ⟨N_3, h, hS, le_2⟩
  unfold hocketlaw23_NetsPlays.J1 at H
  refine hKJ_2 _ _ <| wp_seq <| wp_region_lit ?_
  obtain ⟨t_2, et_2, H⟩ := bs H
  refine s_call h rfl Try.call13 rfl (hocketlaw23_awake.calls K  t_2 w0 _ _ _ mr (hS.enter [] (by decide))  et_2) ?_
  rintro _ w_3 ⟨N_4, rfl, hS'⟩
  intro a h
  obtain ⟨N_5, hS'', le_3, ln_2⟩ := hS.call [] (by decide) rfl (l' := []) (ow := []) rfl hS'
  replace hS : Sep w0 w_3 [N_5, _, _] Z := hS''
  refine sg h rfl fun a h=>nx <| wp_ret ?_
  exact r1 h 6 rfl rfl ⟨_, rfl, N_5, rfl, (hS.sel [0] (by decide))⟩
 clear hKJ_2
 have hS' := hS.room
 replace hS : Sep w0 w_1 [_, _, _, Mem.no] Z := hS'
 refine c_block <| c_loop (fun k_1 a w_4 => ∃ (x_1 : List hocketlaw23_flight) (x_2 : Int) (x_3 : Int) (x_4 : nets_Net) (v_2 : Value) (v_3 : Value) (N_6 : Mem) (M_2 : Mem) (M_3 : Mem), hocketlaw23_NetsPlays.L1 K x1 x2 x0 (fun v => hocketlaw23_NetsPlays.J1 K) k_1 (x_1, x_2, x_3, x_4) = some r ∧ Fr 404 a [(0, iV (mx (w64 ((band .i64 x0 7) + 0)) 1)), (1, p1_0), (2, p2_1), (6, .bool false), (7, .pointer (some ⟨g_1, 0, none⟩)), (8, v_2), (9, iV x_2), (10, iV x_3)] ∧ Sep w0 w_4 [N_6, bx g_1 58 (E58 x_4 v_3), M_3, M_2] Z ∧ N_2.le N_6 ∧ Own k_hocketlaw23_flight 53 M_2 N_6 v_2 x_1 ∧ Own k_nets_frame 60 M_3 (A.un N_6) v_3 x_4.l) K ⟨([] : List hocketlaw23_flight), 0, 0, (⟨t_1.1, t_1.2.1, t_1.2.2⟩ : nets_Net), nS, v_1, N_2, Mem.no, M_1, H, (h.keep [0, 1, 2, 6, 7, 8, 9, 10]), (hS.sel [0, 1, 2, 3] (by decide)), mr, ((Own.nil k_hocketlaw23_flight 53 N_2).mono mr), ((hr_1.mono ln_1).mono (mr.trans (hS.sndA hA)))⟩ (fun a w h => by obtain ⟨_, _, _, _, _, _, _, _, _, H, _⟩ := h; cases (show (none : Option (Unit)) = some r from H)) ?_
 clear h hS a H
 rintro k_1 a w_4 KL_1 hKL_1 ⟨x_1, x_2, x_3, x_4, v_2, v_3, N_6, M_2, M_3, H, h, hS, le_4, ho_1, ho_2⟩
 replace H : hocketlaw23_NetsPlays.B1 K x1 x2 x0 (fun v => hocketlaw23_NetsPlays.J1 K) (hocketlaw23_NetsPlays.L1 K x1 x2 x0 (fun v => hocketlaw23_NetsPlays.J1 K) k_1) x_1 x_2 x_3 x_4 = some r := H
 unfold hocketlaw23_NetsPlays.B1 at H
 refine c_seq fun KJ_3 hKJ_3 => c_seq fun KJ_4 hKJ_4 => ?_
 have hJ_j_2 : ∀ (x_5 : Bool), hocketlaw23_NetsPlays.J2 K x1 x_3 x2 x0 x_4 x_1 (hocketlaw23_NetsPlays.L1 K x1 x2 x0 (fun v => hocketlaw23_NetsPlays.J1 K) k_1) x_2 (fun v => hocketlaw23_NetsPlays.J1 K) x_5 = some r → ∀ (a : Act) (w_5 : World), (∃ (N_7 : Mem), Fr 404 a [(0, iV (mx (w64 ((band .i64 x0 7) + 0)) 1)), (1, p1_0), (2, p2_1), (6, .bool false), (7, .pointer (some ⟨g_1, 0, none⟩)), (8, v_2), (9, iV x_2), (10, iV x_3), (42, .bool x_5)] ∧ Sep w0 w_5 [N_7, bx g_1 58 (E58 x_4 v_3), M_3, M_2] Z ∧ N_6.le N_7) → KJ_4 a w_5 := by
  clear H h hS a
  rintro x_5 H a w_5 ⟨N_7, h, hS, le_5⟩
  unfold hocketlaw23_NetsPlays.J2 at H
  refine hKJ_4 _ _ ?_
  obtain ⟨hc_1, H⟩ | ⟨hc_1, H⟩ := ii H
  ·refine c_cond_t h rfl hc_1 <| wp_skip <| x_then_n (hKJ_3 _ _ ?_)
   refine c_seq fun KJ_5 hKJ_5 => c_block <| qr <| mv h rfl fun a h=>mv h rfl fun a h=>?_
   obtain ⟨t_3, et_3, H⟩ := bs H
   refine v_index h rfl U22 ti3 rfl rfl rfl hp1_0 (hA.trans hS.old) et_3 fun ad_1 cs_1 hk_1 hc_2 => ?_
   obtain rfl := (show cs_1 = [iV t_3] from hk_1)
   intro a h
   refine s_load h rfl rfl (el_one (o := 0) hc_2 U3 rfl rfl) fun a h=>s_shift (r := shr .i64 t_3 4) h rfl rfl rfl (by decide) (.inr ⟨rfl, rfl⟩) fun a h=>s_bits (i := shr .i64 t_3 4) (j := 15) (r := band .i64 (shr .i64 t_3 4) 15) h rfl rfl rfl (.inl ⟨rfl, rfl⟩) fun a h=>s_arith (r := w64 ((band .i64 (shr .i64 t_3 4) 15) - 1)) h rfl rfl rfl (.inr (.inl ⟨rfl, rfl⟩)) fun a h=>sg h rfl fun a h=>nx <| c_seq fun KJ_6 hKJ_6 => ?_
   have hJ_j_3 : ∀ (x_6 : Bool), hocketlaw23_NetsPlays.J3 K x1 x_3 x2 x0 x_4 x_1 t_3 (hocketlaw23_NetsPlays.L1 K x1 x2 x0 (fun v => hocketlaw23_NetsPlays.J1 K) k_1) x_2 x_6 = some r → ∀ (a : Act) (w_6 : World), (∃ (N_8 : Mem), Fr 404 a [(0, iV (mx (w64 ((band .i64 x0 7) + 0)) 1)), (1, p1_0), (2, p2_1), (6, .bool false), (7, .pointer (some ⟨g_1, 0, none⟩)), (8, v_2), (9, iV x_2), (10, iV x_3), (11, iV (w64 ((band .i64 (shr .i64 t_3 4) 15) - 1))), (12, .bool x_6)] ∧ Sep w0 w_6 [N_8, bx g_1 58 (E58 x_4 v_3), M_3, M_2] Z ∧ N_7.le N_8) → KJ_6 a w_6 := by
    clear H h hS a
    rintro x_6 H a w_6 ⟨N_8, h, hS, le_6⟩
    unfold hocketlaw23_NetsPlays.J3 at H
    refine hKJ_6 _ _ <| c_seq fun KJ_7 hKJ_7 => qr <| mv h rfl fun a h=>mv h rfl fun a h=>?_
    obtain ⟨t_4, et_4, H⟩ := bs H
    refine v_index h rfl U22 ti3 rfl rfl rfl hp1_0 (hA.trans hS.old) et_4 fun ad_2 cs_2 hk_2 hc_3 => ?_
    obtain rfl := (show cs_2 = [iV t_4] from hk_2)
    intro a h
    refine s_load h rfl rfl (el_one (o := 0) hc_3 U3 rfl rfl) fun a h=>s_bits (i := t_4) (j := 15) (r := band .i64 t_4 15) h rfl rfl rfl (.inl ⟨rfl, rfl⟩) fun a h=>wpList_nil <| x_then_n ?_
    have hJ_j_4 : ∀ (x_7 : List hocketlaw23_flight), ∀ (x_8 : Int), ∀ (x_9 : nets_Net), hocketlaw23_NetsPlays.J4 K x1 x_3 x0 t_3 (hocketlaw23_NetsPlays.L1 K x1 x2 x0 (fun v => hocketlaw23_NetsPlays.J1 K) k_1) x_7 x_8 x_9 = some r → ∀ (a : Act) (w_7 : World), (∃ (v_4 : Value) (v_5 : Value) (N_9 : Mem) (M_4 : Mem) (M_5 : Mem), Fr 404 a [(0, iV (mx (w64 ((band .i64 x0 7) + 0)) 1)), (1, p1_0), (2, p2_1), (6, .bool false), (7, .pointer (some ⟨g_1, 0, none⟩)), (8, v_4), (9, iV x_8), (10, iV x_3), (11, iV (w64 ((band .i64 (shr .i64 t_3 4) 15) - 1)))] ∧ Sep w0 w_7 [N_9, bx g_1 58 (E58 x_9 v_5), M_5, Mem.no, M_4] Z ∧ N_8.le N_9 ∧ Own k_hocketlaw23_flight 53 M_4 N_9 v_4 x_7 ∧ Own k_nets_frame 60 M_5 (A.un N_9) v_5 x_9.l) → KJ_7 a w_7 := by
     clear H h hS a
     rintro x_7 x_8 x_9 H a w_7 ⟨v_4, v_5, N_9, M_4, M_5, h, hS, le_7, ho_3, ho_4⟩
     unfold hocketlaw23_NetsPlays.J4 at H
     refine hKJ_7 _ _ <| c_seq fun KJ_8 hKJ_8 => h_begin (S := fun w => Sep w0 w [N_9, bx g_1 58 (E58 x_9 v_5), M_5, Mem.no, M_4] Z) 18 (by kernel_rfl) rfl (bA 18 0) (by kernel_rfl) hS fun w_8 hS => ?_
     refine t_take 0 (bA 18 1) rfl rfl rfl rfl h (hS.sub (.cons mr (.rr (.rr (.zz .ii))))) (v := p1_0) (fun w hS => r_move h rfl) fun a h=>t_take 1 (bA 18 3) rfl rfl rfl rfl h (hS.sub (.cons mr (.rr (.rr (.zz .ii))))) (v := iV x_3) (fun w hS => r_move h rfl) fun a h=>?_
     obtain ⟨t_5, et_5, H⟩ := bs H
     refine t_takeE 2 (bA 18 7) rfl rfl rfl rfl h (hS.sub (.cons mr (.rr (.rr (.zz .ii))))) (f := fun ad => .pointer (some ad)) (r_index h U22 ti3 rfl rfl rfl hp1_0 et_5) ?_
     rintro ad_3 ⟨cs_3, hk_3, hc_4⟩
     obtain rfl := (show cs_3 = [iV t_5] from hk_3)
     intro a h
     refine t_take 3 (bA 18 15) rfl rfl rfl rfl h (hS.sub (.cons mr (.rr (.rr (.zz .ii))))) (v := iV t_5) (fun w hS => r_load h rfl (el_one (o := 0) (fun j c h => Mem.cell_le (hA.trans hS.old) (hc_4 j c h)) U3 rfl rfl)) fun a h=>t_take 4 (bA 18 31) rfl rfl rfl rfl h (hS.sub (.cons mr (.rr (.rr (.zz .ii))))) (v := iV (shr .i64 t_5 12)) (fun w hS => r_shift (r := shr .i64 t_5 12) h rfl rfl (by decide) (.inr ⟨rfl, rfl⟩)) fun a h=>t_take 5 (bA 18 63) rfl rfl rfl rfl h (hS.sub (.cons mr (.rr (.rr (.zz .ii))))) (v := iV (band .i64 (shr .i64 t_5 12) 7)) (fun w hS => r_bits (i := shr .i64 t_5 12) (j := 7) (r := band .i64 (shr .i64 t_5 12) 7) h rfl rfl (.inl ⟨rfl, rfl⟩)) fun a h=>t_take 6 (bA 18 127) rfl rfl rfl rfl h (hS.sub (.cons mr (.rr (.rr (.zz .ii))))) (v := iV (mx (w64 ((band .i64 x0 7) + 0)) 1)) (fun w hS => r_move h rfl) fun a h=>?_
     obtain ⟨t_6, et_6, H⟩ := bs H
     refine t_take 7 (bA 18 255) rfl rfl rfl rfl h (hS.sub (.cons mr (.rr (.rr (.zz .ii))))) (v := iV t_6) (fun w hS => r_div (r := t_6) h rfl rfl (rem_some et_6).1 (.inr ⟨rfl, (rem_some et_6).2⟩)) fun a h=>t_take 8 (bA 18 511) rfl rfl rfl rfl h (hS.sub (.cons mr (.rr (.rr (.zz .ii))))) (v := p1_0) (fun w hS => r_move h rfl) fun a h=>t_take 9 (bA 18 1023) rfl rfl rfl rfl h (hS.sub (.cons mr (.rr (.rr (.zz .ii))))) (v := iV x_3) (fun w hS => r_move h rfl) fun a h=>?_
     obtain ⟨t_7, et_7, H⟩ := bs H
     refine t_takeE 10 (bA 18 2047) rfl rfl rfl rfl h (hS.sub (.cons mr (.rr (.rr (.zz .ii))))) (f := fun ad => .pointer (some ad)) (r_index h U22 ti3 rfl rfl rfl hp1_0 et_7) ?_
     rintro ad_4 ⟨cs_4, hk_4, hc_5⟩
     obtain rfl := (show cs_4 = [iV t_7] from hk_4)
     intro a h
     refine t_take 11 (bA 18 4095) rfl rfl rfl rfl h (hS.sub (.cons mr (.rr (.rr (.zz .ii))))) (v := iV t_7) (fun w hS => r_load h rfl (el_one (o := 0) (fun j c h => Mem.cell_le (hA.trans hS.old) (hc_5 j c h)) U3 rfl rfl)) fun a h=>t_take 12 (bA 18 8191) rfl rfl rfl rfl h (hS.sub (.cons mr (.rr (.rr (.zz .ii))))) (v := iV (shr .i64 t_7 15)) (fun w hS => r_shift (r := shr .i64 t_7 15) h rfl rfl (by decide) (.inr ⟨rfl, rfl⟩)) fun a h=>t_take 13 (bA 18 16383) rfl rfl rfl rfl h (hS.sub (.cons mr (.rr (.rr (.zz .ii))))) (v := iV (band .i64 (shr .i64 t_7 15) 7)) (fun w hS => r_bits (i := shr .i64 t_7 15) (j := 7) (r := band .i64 (shr .i64 t_7 15) 7) h rfl rfl (.inl ⟨rfl, rfl⟩)) fun a h=>t_take 14 (bA 18 32767) rfl rfl rfl rfl h (hS.sub (.cons mr (.rr (.rr (.zz .ii))))) (v := iV (mx (w64 ((band .i64 x0 7) + 0)) 1)) (fun w hS => r_move h rfl) fun a h=>?_
     obtain ⟨t_8, et_8, H⟩ := bs H
     refine t_take 15 (bA 18 65535) rfl rfl rfl rfl h (hS.sub (.cons mr (.rr (.rr (.zz .ii))))) (v := iV t_8) (fun w hS => r_div (r := t_8) h rfl rfl (rem_some et_8).1 (.inr ⟨rfl, (rem_some et_8).2⟩)) fun a h=>t_take 16 (bA 18 131071) rfl rfl rfl rfl h (hS.sub (.cons mr (.rr (.rr (.zz .ii))))) (v := iV t_6) (fun w hS => r_assign h rfl) fun a h=>t_take 17 (bA 18 262143) rfl rfl rfl rfl h (hS.sub (.cons mr (.rr (.rr (.zz .ii))))) (v := iV t_8) (fun w hS => r_assign h rfl) fun a h=>h_done (by kernel_rfl) <| x_then_n (hKJ_8 _ _ ?_)
     refine c_seq fun KJ_9 hKJ_9 => c_seq fun KJ_10 hKJ_10 => ?_
     have hJ_j_5 : ∀ (x_10 : Bool), hocketlaw23_NetsPlays.J5 K x_9 t_3 x_7 (hocketlaw23_NetsPlays.L1 K x1 x2 x0 (fun v => hocketlaw23_NetsPlays.J1 K) k_1) x_8 x_3 x_10 = some r → ∀ (a : Act) (w_9 : World), (∃ (N_10 : Mem), Fr 404 a [(0, iV (mx (w64 ((band .i64 x0 7) + 0)) 1)), (1, p1_0), (2, p2_1), (6, .bool false), (7, .pointer (some ⟨g_1, 0, none⟩)), (8, v_4), (9, iV x_8), (10, iV x_3), (11, iV (w64 ((band .i64 (shr .i64 t_3 4) 15) - 1))), (350, .bool x_10)] ∧ Sep w0 w_9 [N_10, bx g_1 58 (E58 x_9 v_5), M_5, Mem.no, M_4] Z ∧ N_9.le N_10) → KJ_10 a w_9 := by
      clear H h hS a
      rintro x_10 H a w_9 ⟨N_10, h, hS, le_8⟩
      unfold hocketlaw23_NetsPlays.J5 at H
      refine hKJ_10 _ _ ?_
      obtain ⟨hc_6, H⟩ | ⟨hc_6, H⟩ := ii H
      ·cases H
      ·refine c_cond_f h rfl (ef hc_6) <| wp_skip <| x_then_n (hKJ_9 _ _ ?_)
       refine qr <| mv h rfl fun a h=>mv h rfl fun a h=>?_
       obtain ⟨t_9, et_9, H⟩ := bs H
       refine s_call h rfl Try.call18 rfl (nets_Net_At.calls _ x_9.n x_9.mask x_9.l _ (w64 ((band .i64 (shr .i64 t_3 4) 15) - 1)) t_9 w0 _ _ _ mr (hS.enter [0] (by decide)) (ho_4.rd (hS.own_zed [0] 1 (by decide)) (Mem.un_le (hA.trans (hS.le_zed [0])) (le_8.trans (hS.new_zed [0])))) et_9) ?_
       rintro _ w_10 ⟨v_6, N_11, M_6, rfl, hS', hr_2⟩
       intro a h
       obtain ⟨N_12, hS'', le_9, ln_3⟩ := hS.call [0] (by decide) rfl (l' := [_]) (ow := [_]) rfl hS'
       replace hS : Sep w0 w_10 [N_12, _, _, _, _, _] Z := hS''
       refine mv h rfl fun a h=>s_extract h rfl rfl rfl fun a h=>s_extract h rfl rfl rfl fun a h=>v_alloc h rfl ti44 hS fun w_11 g_2 hS' a h => ?_
       replace hS : Sep w0 w_11 [_, _, _, _, _, _, bx g_2 44 [iV 0, iV 0, nS]] Z := hS'
       refine sto 6 h rfl rfl hS rfl ti44 rfl rfl rfl (oa 2 rfl (oc hr_2.one on0)) fun w_12 hS' => ?_
       replace hS : Sep w0 w_12 [_, _, _, _, _, _, bx g_2 44 [iV t_9.1.From, iV t_9.1.To, v_6]] Z := hS'
       refine sg h rfl fun a h=>wpList_nil ?_
       replace h : Fr 404 a [(0, _), (1, _), (2, _), (6, _), (7, _), (8, _), (9, _), (10, _), (11, _), (24, .pointer (some ⟨g_2, 0, none⟩)), (25, .bool t_9.2)] := h.keep [0, 1, 2, 6, 7, 8, 9, 10, 11, 24, 25]
       refine x_then_n <| c_seq fun KJ_11 hKJ_11 => ?_
       have hJ_j_6 : ∀ (x_11 : Bool), hocketlaw23_NetsPlays.J6 K t_9 x_7 t_3 (hocketlaw23_NetsPlays.L1 K x1 x2 x0 (fun v => hocketlaw23_NetsPlays.J1 K) k_1) x_8 x_3 x_9 x_11 = some r → ∀ (a : Act) (w_13 : World), (∃ (N_13 : Mem), Fr 404 a [(0, iV (mx (w64 ((band .i64 x0 7) + 0)) 1)), (1, p1_0), (2, p2_1), (6, .bool false), (7, .pointer (some ⟨g_1, 0, none⟩)), (8, v_4), (9, iV x_8), (10, iV x_3), (11, iV (w64 ((band .i64 (shr .i64 t_3 4) 15) - 1))), (12, .bool x_11), (24, .pointer (some ⟨g_2, 0, none⟩)), (25, .bool t_9.2)] ∧ Sep w0 w_13 [N_13, bx g_1 58 (E58 x_9 v_5), M_5, Mem.no, M_4, M_6, bx g_2 44 [iV t_9.1.From, iV t_9.1.To, v_6]] Z ∧ N_12.le N_13) → KJ_11 a w_13 := by
        clear H h hS a
        rintro x_11 H a w_13 ⟨N_13, h, hS, le_10⟩
        unfold hocketlaw23_NetsPlays.J6 at H
        refine hKJ_11 _ _ <| c_seq fun KJ_12 hKJ_12 => ?_
        have hJ_j_7 : ∀ (x_12 : Bool), hocketlaw23_NetsPlays.J7 K (hocketlaw23_NetsPlays.L1 K x1 x2 x0 (fun v => hocketlaw23_NetsPlays.J1 K) k_1) x_7 x_8 x_3 x_9 x_12 = some r → ∀ (a : Act) (w_14 : World), (∃ (N_14 : Mem), Fr 404 a [(0, iV (mx (w64 ((band .i64 x0 7) + 0)) 1)), (1, p1_0), (2, p2_1), (6, .bool false), (7, .pointer (some ⟨g_1, 0, none⟩)), (8, v_4), (9, iV x_8), (10, iV x_3), (402, .bool x_12)] ∧ Sep w0 w_14 [N_14, bx g_1 58 (E58 x_9 v_5), M_5, Mem.no, M_4, Mem.no, Mem.no] Z ∧ N_13.le N_14) → KJ_12 a w_14 := by
         clear H h hS a
         rintro x_12 H a w_14 ⟨N_14, h, hS, le_11⟩
         unfold hocketlaw23_NetsPlays.J7 at H
         refine hKJ_12 _ _ ?_
         obtain ⟨hc_7, H⟩ | ⟨hc_7, H⟩ := ii H
         ·cases H
         ·refine c_cond_f h rfl (ef hc_7) <| wp_skip <| x_block_n <| x_then_n (hKJ_5 _ _ ?_)
          refine wp_region_lit <| mv h rfl fun a h=>s_arith (r := w64 (x_3 + 1)) h rfl rfl rfl (.inl ⟨rfl, rfl⟩) fun a h=>sg h rfl fun a h=>wpList_nil <| x_then_n (hKL_1 _ _ ?_)
          exact ⟨x_7, x_8, w64 (x_3 + 1), x_9, v_4, v_5, N_14, M_4, M_5, H, (h.keep [0, 1, 2, 6, 7, 8, 9, 10]), (hS.sel [0, 1, 2, 4] (by decide)), (le_4.trans (le_5.trans (le_6.trans (le_7.trans (le_8.trans (le_9.trans (le_10.trans le_11))))))), (ho_3.mono (le_8.trans (le_9.trans (le_10.trans le_11)))), (ho_4.mono (Mem.un_left (le_8.trans (le_9.trans (le_10.trans le_11)))))⟩
        clear hKJ_12
        refine h_begin (S := fun w => Sep w0 w [N_13, bx g_1 58 (E58 x_9 v_5), M_5, Mem.no, M_4, M_6, bx g_2 44 [iV t_9.1.From, iV t_9.1.To, v_6]] Z) 38 (by kernel_rfl) rfl (bA 38 0) (by kernel_rfl) hS fun w_15 hS => ?_
        refine t_take 0 (bA 38 1) rfl rfl rfl rfl h (hS.sub (.cons mr (.rr (.rr (.zz .ii))))) (v := .bool t_9.2) (fun w hS => r_move h rfl) fun a h=>t_take 1 (bA 38 3) rfl rfl rfl rfl h (hS.sub (.cons mr (.rr (.rr (.zz .ii))))) (v := .bool x_11) (fun w hS => r_move h rfl) fun a h=>t_take 2 (bA 38 7) rfl rfl rfl rfl h (hS.sub (.cons mr (.rr (.rr (.zz .ii))))) (v := .bool (!(t_9.2 == x_11))) (fun w hS => r_beq (b := !(t_9.2 == x_11)) h U4 rfl rfl (.inr ⟨rfl, rfl⟩)) fun a h=>t_take 3 (bA 38 15) rfl rfl rfl rfl h (hS.sub (.cons mr (.rr (.rr (.zz .ii))))) (v := .bool (!(t_9.2 == x_11))) (fun w hS => r_move h rfl) fun a h=>?_
        obtain ⟨hc_8, H⟩ | ⟨hc_8, H⟩ := ii H
        ·refine t_take_on 4 (bA 38 31) rfl rfl rfl rfl (nf (bt hc_8)) rfl rfl h (hS.sub (.cons mr (.rr (.rr (.zz .ii))))) (v := .bool x_11) (fun w hS => r_move h rfl) fun a h=>t_take_on 5 (bA 38 63) rfl rfl rfl rfl (nf (bt hc_8)) rfl rfl h (hS.sub (.cons mr (.rr (.rr (.zz .ii))))) (v := .bool x_11) (fun w hS => r_move h rfl) fun a h=>?_
         obtain ⟨hc_9, H⟩ | ⟨hc_9, H⟩ := ii H
         ·refine t_take_on 6 (bA 38 127) rfl rfl rfl rfl hc_9 rfl rfl h (hS.sub (.cons mr (.rr (.rr (.zz .ii))))) (v := .pointer (some ⟨g_2, 0, none⟩)) (fun w hS => r_fieldAddr h U44 rfl ti3 rfl rfl rfl) fun a h=>t_take_on 7 (bA 38 255) rfl rfl rfl rfl hc_9 rfl rfl h (hS.sub (.cons mr (.rr (.rr (.zz .ii))))) (v := iV t_9.1.From) (fun w hS => r_load h rfl (hS.load_one (p := 6) rfl U3 rfl rfl)) fun a h=>t_take_on 8 (bA 38 511) rfl rfl rfl rfl hc_9 rfl rfl h (hS.sub (.cons mr (.rr (.rr (.zz .ii))))) (v := v_4) (fun w hS => r_move h rfl) fun a h=>t_take_on 9 (bA 38 1023) rfl rfl rfl rfl hc_9 rfl rfl h (hS.sub (.cons mr (.rr (.rr (.zz .ii))))) (v := iV (w64 ((band .i64 (shr .i64 t_3 4) 15) - 1))) (fun w hS => r_move h rfl) fun a h=>?_
          obtain ⟨t_10, et_10, H⟩ := bs H
          refine t_takeE_on 10 (bA 38 2047) rfl rfl rfl rfl hc_9 rfl rfl h (hS.sub (.cons mr (.rr (.rr (.zz .ii))))) (f := fun ad => .pointer (some ad)) (r_indexO h U50 ti53 rfl rfl rfl ho_3 et_10) ?_
          rintro ad_5 ⟨cs_5, hk_5, hc_10⟩
          obtain ⟨v_7, rfl, hr_3⟩ := k_hocketlaw23_flight.open' hk_5
          intro a h
          refine t_take_on 11 (bA 38 4095) rfl rfl rfl rfl hc_9 rfl rfl h (hS.sub (.cons mr (.rr (.rr (.zz .ii))))) (v := .pointer (some (ad_5.add 0))) (fun w hS => r_fieldAddr h U53 rfl ti3 rfl rfl rfl) fun a h=>t_take_on 12 (bA 38 8191) rfl rfl rfl rfl hc_9 rfl rfl h (hS.sub (.cons mr (.rr (.rr (.zz .ii))))) (v := iV t_10.from_) (fun w hS => r_load h rfl (el_one (o := 0) (fun j c h => Mem.cell_le (hS.own 4) (hc_10 j c h)) U3 rfl rfl)) fun a h=>t_take_on 13 (bA 38 16383) rfl rfl rfl rfl hc_9 rfl rfl h (hS.sub (.cons mr (.rr (.rr (.zz .ii))))) (v := .bool (t_9.1.From != t_10.from_)) (fun w hS => r_cmp (b := (t_9.1.From != t_10.from_)) h rfl rfl (.inr (.inl ⟨rfl, rfl⟩))) fun a h=>t_take_on 14 (bA 38 32767) rfl rfl rfl rfl hc_9 rfl rfl h (hS.sub (.cons mr (.rr (.rr (.zz .ii))))) (v := .bool (t_9.1.From != t_10.from_)) (fun w hS => r_move h rfl) fun a h=>?_
          obtain ⟨hc_11, H⟩ | ⟨hc_11, H⟩ := ii H
          ·refine t_take_on 15 (bA 38 65535) rfl rfl rfl rfl (xf hc_11) rfl rfl h (hS.sub (.cons mr (.rr (.rr (.zz .ii))))) (v := .pointer (some ⟨g_2, 1, none⟩)) (fun w hS => r_fieldAddr h U44 rfl ti3 rfl rfl rfl) fun a h=>t_take_on 16 (bA 38 131071) rfl rfl rfl rfl (xf hc_11) rfl rfl h (hS.sub (.cons mr (.rr (.rr (.zz .ii))))) (v := iV t_9.1.To) (fun w hS => r_load h rfl (hS.load_one (p := 6) rfl U3 rfl rfl)) fun a h=>t_take_on 17 (bA 38 262143) rfl rfl rfl rfl (xf hc_11) rfl rfl h (hS.sub (.cons mr (.rr (.rr (.zz .ii))))) (v := v_4) (fun w hS => r_move h rfl) fun a h=>t_take_on 18 (bA 38 524287) rfl rfl rfl rfl (xf hc_11) rfl rfl h (hS.sub (.cons mr (.rr (.rr (.zz .ii))))) (v := iV (w64 ((band .i64 (shr .i64 t_3 4) 15) - 1))) (fun w hS => r_move h rfl) fun a h=>?_
           obtain ⟨t_11, et_11, H⟩ := bs H
           refine t_takeE_on 19 (bA 38 1048575) rfl rfl rfl rfl (xf hc_11) rfl rfl h (hS.sub (.cons mr (.rr (.rr (.zz .ii))))) (f := fun ad => .pointer (some ad)) (r_indexO h U50 ti53 rfl rfl rfl ho_3 et_11) ?_
           rintro ad_6 ⟨cs_6, hk_6, hc_12⟩
           obtain ⟨v_8, rfl, hr_4⟩ := k_hocketlaw23_flight.open' hk_6
           intro a h
           refine t_take_on 20 (bA 38 2097151) rfl rfl rfl rfl (xf hc_11) rfl rfl h (hS.sub (.cons mr (.rr (.rr (.zz .ii))))) (v := .pointer (some (ad_6.add 1))) (fun w hS => r_fieldAddr h U53 rfl ti3 rfl rfl rfl) fun a h=>t_take_on 21 (bA 38 4194303) rfl rfl rfl rfl (xf hc_11) rfl rfl h (hS.sub (.cons mr (.rr (.rr (.zz .ii))))) (v := iV t_11.to) (fun w hS => r_load h rfl (el_one (o := 1) (fun j c h => Mem.cell_le (hS.own 4) (hc_12 j c h)) U3 rfl rfl)) fun a h=>t_take_on 22 (bA 38 8388607) rfl rfl rfl rfl (xf hc_11) rfl rfl h (hS.sub (.cons mr (.rr (.rr (.zz .ii))))) (v := .bool (t_9.1.To != t_11.to)) (fun w hS => r_cmp (b := (t_9.1.To != t_11.to)) h rfl rfl (.inr (.inl ⟨rfl, rfl⟩))) fun a h=>t_take_on 23 (bA 38 16777215) rfl rfl rfl rfl hc_9 rfl rfl h (hS.sub (.cons mr (.rr (.rr (.zz .ii))))) (v := .bool (t_9.1.To != t_11.to)) (fun w hS => r_pick_f h rfl (xf hc_11) rfl) fun a h=>t_take_on 24 (bA 38 33554431) rfl rfl rfl rfl hc_9 rfl rfl h (hS.sub (.cons mr (.rr (.rr (.zz .ii))))) (v := .bool (t_9.1.To != t_11.to)) (fun w hS => r_move h rfl) fun a h=>?_
           obtain ⟨hc_13, H⟩ | ⟨hc_13, H⟩ := ii H
           ·refine t_take_on 25 (bA 38 67108863) rfl rfl rfl rfl (xf hc_13) rfl rfl h (hS.sub (.cons mr (.rr (.rr (.zz .ii))))) (v := .pointer (some ⟨g_2, 2, none⟩)) (fun w hS => r_fieldAddr h U44 rfl ti26 rfl rfl rfl) fun a h=>t_take_on 26 (bA 38 134217727) rfl rfl rfl rfl (xf hc_13) rfl rfl h (hS.sub (.cons mr (.rr (.rr (.zz .ii))))) (v := v_6) (fun w hS => r_load h rfl (hS.load_one (p := 6) rfl U26 rfl rfl)) fun a h=>t_take_on 27 (bA 38 268435455) rfl rfl rfl rfl (xf hc_13) rfl rfl h (hS.sub (.cons mr (.rr (.rr (.zz .ii))))) (v := .string ⟨t_9.1.Bytes.toArray⟩) (fun w hS => r_b2s h U26 U5 U9 rfl (hr_2.rd (J := hp w) (hS.own 5) (Mem.no_le _)) mr) fun a h=>t_take_on 28 (bA 38 536870911) rfl rfl rfl rfl (xf hc_13) rfl rfl h (hS.sub (.cons mr (.rr (.rr (.zz .ii))))) (v := v_4) (fun w hS => r_move h rfl) fun a h=>t_take_on 29 (bA 38 1073741823) rfl rfl rfl rfl (xf hc_13) rfl rfl h (hS.sub (.cons mr (.rr (.rr (.zz .ii))))) (v := iV (w64 ((band .i64 (shr .i64 t_3 4) 15) - 1))) (fun w hS => r_move h rfl) fun a h=>?_
            obtain ⟨t_12, et_12, H⟩ := bs H
            refine t_takeE_on 30 (bA 38 2147483647) rfl rfl rfl rfl (xf hc_13) rfl rfl h (hS.sub (.cons mr (.rr (.rr (.zz .ii))))) (f := fun ad => .pointer (some ad)) (r_indexO h U50 ti53 rfl rfl rfl ho_3 et_12) ?_
            rintro ad_7 ⟨cs_7, hk_7, hc_14⟩
            obtain ⟨v_9, rfl, hr_5⟩ := k_hocketlaw23_flight.open' hk_7
            intro a h
            refine t_take_on 31 (bA 38 4294967295) rfl rfl rfl rfl (xf hc_13) rfl rfl h (hS.sub (.cons mr (.rr (.rr (.zz .ii))))) (v := .pointer (some (ad_7.add 2))) (fun w hS => r_fieldAddr h U53 rfl ti26 rfl rfl rfl) fun a h=>t_take_on 32 (bA 38 8589934591) rfl rfl rfl rfl (xf hc_13) rfl rfl h (hS.sub (.cons mr (.rr (.rr (.zz .ii))))) (v := v_9) (fun w hS => r_load h rfl (el_one (o := 2) (fun j c h => Mem.cell_le (hS.own 4) (hc_14 j c h)) U26 rfl rfl)) fun a h=>t_take_on 33 (bA 38 17179869183) rfl rfl rfl rfl (xf hc_13) rfl rfl h (hS.sub (.cons mr (.rr (.rr (.zz .ii))))) (v := .string ⟨t_12.b.toArray⟩) (fun w hS => r_b2s h U26 U5 U9 rfl hr_5 ((le_8.trans (le_9.trans le_10)).trans (hS.own 0))) fun a h=>t_take_on 34 (bA 38 34359738367) rfl rfl rfl rfl (xf hc_13) rfl rfl h (hS.sub (.cons mr (.rr (.rr (.zz .ii))))) (v := .bool (!(t_9.1.Bytes == t_12.b))) (fun w hS => r_strEq (b := !(t_9.1.Bytes == t_12.b)) h rfl rfl (.inr ⟨rfl, rfl⟩)) fun a h=>t_take_on 35 (bA 38 68719476735) rfl rfl rfl rfl hc_9 rfl rfl h (hS.sub (.cons mr (.rr (.rr (.zz .ii))))) (v := .bool (!(t_9.1.Bytes == t_12.b))) (fun w hS => r_pick_f h rfl (xf hc_13) rfl) fun a h=>?_
            refine t_take_on 36 (bA 38 137438953471) rfl rfl rfl rfl (nf (bt hc_8)) rfl rfl h (hS.sub (.cons mr (.rr (.rr (.zz .ii))))) (v := .bool (!(t_9.1.Bytes == t_12.b))) (fun w hS => r_pick_t h rfl hc_9 rfl) fun a h=>t_take 37 (bA 38 274877906943) rfl rfl rfl rfl h (hS.sub (.cons mr (.rr (.rr (.zz .ii))))) (v := .bool (!(t_9.1.Bytes == t_12.b))) (fun w hS => r_pick_f h rfl (nf (bt hc_8)) rfl) fun a h=>h_done (by kernel_rfl) ?_
            exact x_then_n (hJ_j_7 (!(t_9.1.Bytes == t_12.b)) H _ _ ⟨N_13, (h.keep [0, 1, 2, 6, 7, 8, 9, 10, 402]), (hS.sel [0, 1, 2, 1002, 4, 1004, 1005] (by decide)), mr⟩)
           ·refine t_take_off 25 (bA 38 67108863) rfl rfl rfl rfl (.inl (congrArg Value.bool (xt hc_13))) rfl rfl h (hS.sub (.cons mr (.rr (.rr (.zz .ii))))) fun a h=>t_take_off 26 (bA 38 134217727) rfl rfl rfl rfl (.inl (congrArg Value.bool (xt hc_13))) rfl rfl h (hS.sub (.cons mr (.rr (.rr (.zz .ii))))) fun a h=>t_take_off 27 (bA 38 268435455) rfl rfl rfl rfl (.inl (congrArg Value.bool (xt hc_13))) rfl rfl h (hS.sub (.cons mr (.rr (.rr (.zz .ii))))) fun a h=>t_take_off 28 (bA 38 536870911) rfl rfl rfl rfl (.inl (congrArg Value.bool (xt hc_13))) rfl rfl h (hS.sub (.cons mr (.rr (.rr (.zz .ii))))) fun a h=>t_take_off 29 (bA 38 1073741823) rfl rfl rfl rfl (.inl (congrArg Value.bool (xt hc_13))) rfl rfl h (hS.sub (.cons mr (.rr (.rr (.zz .ii))))) fun a h=>t_take_off 30 (bA 38 2147483647) rfl rfl rfl rfl (.inl (congrArg Value.bool (xt hc_13))) rfl rfl h (hS.sub (.cons mr (.rr (.rr (.zz .ii))))) fun a h=>t_take_off 31 (bA 38 4294967295) rfl rfl rfl rfl (.inl (congrArg Value.bool (xt hc_13))) rfl rfl h (hS.sub (.cons mr (.rr (.rr (.zz .ii))))) fun a h=>?_
            refine t_take_off 32 (bA 38 8589934591) rfl rfl rfl rfl (.inl (congrArg Value.bool (xt hc_13))) rfl rfl h (hS.sub (.cons mr (.rr (.rr (.zz .ii))))) fun a h=>t_take_off 33 (bA 38 17179869183) rfl rfl rfl rfl (.inl (congrArg Value.bool (xt hc_13))) rfl rfl h (hS.sub (.cons mr (.rr (.rr (.zz .ii))))) fun a h=>t_take_off 34 (bA 38 34359738367) rfl rfl rfl rfl (.inl (congrArg Value.bool (xt hc_13))) rfl rfl h (hS.sub (.cons mr (.rr (.rr (.zz .ii))))) fun a h=>t_take_on 35 (bA 38 68719476735) rfl rfl rfl rfl hc_9 rfl rfl h (hS.sub (.cons mr (.rr (.rr (.zz .ii))))) (v := .bool true) (fun w hS => r_pick_t h rfl (xt hc_13) rfl) fun a h=>t_take_on 36 (bA 38 137438953471) rfl rfl rfl rfl (nf (bt hc_8)) rfl rfl h (hS.sub (.cons mr (.rr (.rr (.zz .ii))))) (v := .bool true) (fun w hS => r_pick_t h rfl hc_9 rfl) fun a h=>t_take 37 (bA 38 274877906943) rfl rfl rfl rfl h (hS.sub (.cons mr (.rr (.rr (.zz .ii))))) (v := .bool true) (fun w hS => r_pick_f h rfl (nf (bt hc_8)) rfl) fun a h=>h_done (by kernel_rfl) ?_
            exact x_then_n (hJ_j_7 true H _ _ ⟨N_13, (h.keep [0, 1, 2, 6, 7, 8, 9, 10, 402]), (hS.sel [0, 1, 2, 1002, 4, 1004, 1005] (by decide)), mr⟩)
          ·refine t_take_off 15 (bA 38 65535) rfl rfl rfl rfl (.inl (congrArg Value.bool (xt hc_11))) rfl rfl h (hS.sub (.cons mr (.rr (.rr (.zz .ii))))) fun a h=>t_take_off 16 (bA 38 131071) rfl rfl rfl rfl (.inl (congrArg Value.bool (xt hc_11))) rfl rfl h (hS.sub (.cons mr (.rr (.rr (.zz .ii))))) fun a h=>t_take_off 17 (bA 38 262143) rfl rfl rfl rfl (.inl (congrArg Value.bool (xt hc_11))) rfl rfl h (hS.sub (.cons mr (.rr (.rr (.zz .ii))))) fun a h=>t_take_off 18 (bA 38 524287) rfl rfl rfl rfl (.inl (congrArg Value.bool (xt hc_11))) rfl rfl h (hS.sub (.cons mr (.rr (.rr (.zz .ii))))) fun a h=>t_take_off 19 (bA 38 1048575) rfl rfl rfl rfl (.inl (congrArg Value.bool (xt hc_11))) rfl rfl h (hS.sub (.cons mr (.rr (.rr (.zz .ii))))) fun a h=>t_take_off 20 (bA 38 2097151) rfl rfl rfl rfl (.inl (congrArg Value.bool (xt hc_11))) rfl rfl h (hS.sub (.cons mr (.rr (.rr (.zz .ii))))) fun a h=>t_take_off 21 (bA 38 4194303) rfl rfl rfl rfl (.inl (congrArg Value.bool (xt hc_11))) rfl rfl h (hS.sub (.cons mr (.rr (.rr (.zz .ii))))) fun a h=>?_
           refine t_take_off 22 (bA 38 8388607) rfl rfl rfl rfl (.inl (congrArg Value.bool (xt hc_11))) rfl rfl h (hS.sub (.cons mr (.rr (.rr (.zz .ii))))) fun a h=>t_take_on 23 (bA 38 16777215) rfl rfl rfl rfl hc_9 rfl rfl h (hS.sub (.cons mr (.rr (.rr (.zz .ii))))) (v := .bool true) (fun w hS => r_pick_t h rfl (xt hc_11) rfl) fun a h=>t_take_on 24 (bA 38 33554431) rfl rfl rfl rfl hc_9 rfl rfl h (hS.sub (.cons mr (.rr (.rr (.zz .ii))))) (v := .bool true) (fun w hS => r_move h rfl) fun a h=>t_take_off 25 (bA 38 67108863) rfl rfl rfl rfl (.inl (congrArg Value.bool rfl)) rfl rfl h (hS.sub (.cons mr (.rr (.rr (.zz .ii))))) fun a h=>t_take_off 26 (bA 38 134217727) rfl rfl rfl rfl (.inl (congrArg Value.bool rfl)) rfl rfl h (hS.sub (.cons mr (.rr (.rr (.zz .ii))))) fun a h=>t_take_off 27 (bA 38 268435455) rfl rfl rfl rfl (.inl (congrArg Value.bool rfl)) rfl rfl h (hS.sub (.cons mr (.rr (.rr (.zz .ii))))) fun a h=>t_take_off 28 (bA 38 536870911) rfl rfl rfl rfl (.inl (congrArg Value.bool rfl)) rfl rfl h (hS.sub (.cons mr (.rr (.rr (.zz .ii))))) fun a h=>?_
           refine t_take_off 29 (bA 38 1073741823) rfl rfl rfl rfl (.inl (congrArg Value.bool rfl)) rfl rfl h (hS.sub (.cons mr (.rr (.rr (.zz .ii))))) fun a h=>t_take_off 30 (bA 38 2147483647) rfl rfl rfl rfl (.inl (congrArg Value.bool rfl)) rfl rfl h (hS.sub (.cons mr (.rr (.rr (.zz .ii))))) fun a h=>t_take_off 31 (bA 38 4294967295) rfl rfl rfl rfl (.inl (congrArg Value.bool rfl)) rfl rfl h (hS.sub (.cons mr (.rr (.rr (.zz .ii))))) fun a h=>t_take_off 32 (bA 38 8589934591) rfl rfl rfl rfl (.inl (congrArg Value.bool rfl)) rfl rfl h (hS.sub (.cons mr (.rr (.rr (.zz .ii))))) fun a h=>t_take_off 33 (bA 38 17179869183) rfl rfl rfl rfl (.inl (congrArg Value.bool rfl)) rfl rfl h (hS.sub (.cons mr (.rr (.rr (.zz .ii))))) fun a h=>t_take_off 34 (bA 38 34359738367) rfl rfl rfl rfl (.inl (congrArg Value.bool rfl)) rfl rfl h (hS.sub (.cons mr (.rr (.rr (.zz .ii))))) fun a h=>t_take_on 35 (bA 38 68719476735) rfl rfl rfl rfl hc_9 rfl rfl h (hS.sub (.cons mr (.rr (.rr (.zz .ii))))) (v := .bool true) (fun w hS => r_pick_t h rfl rfl rfl) fun a h=>t_take_on 36 (bA 38 137438953471) rfl rfl rfl rfl (nf (bt hc_8)) rfl rfl h (hS.sub (.cons mr (.rr (.rr (.zz .ii))))) (v := .bool true) (fun w hS => r_pick_t h rfl hc_9 rfl) fun a h=>?_
           refine t_take 37 (bA 38 274877906943) rfl rfl rfl rfl h (hS.sub (.cons mr (.rr (.rr (.zz .ii))))) (v := .bool true) (fun w hS => r_pick_f h rfl (nf (bt hc_8)) rfl) fun a h=>h_done (by kernel_rfl) ?_
           exact x_then_n (hJ_j_7 true H _ _ ⟨N_13, (h.keep [0, 1, 2, 6, 7, 8, 9, 10, 402]), (hS.sel [0, 1, 2, 1002, 4, 1004, 1005] (by decide)), mr⟩)
         ·refine t_take_off 6 (bA 38 127) rfl rfl rfl rfl (.inl (congrArg Value.bool (ef hc_9))) rfl rfl h (hS.sub (.cons mr (.rr (.rr (.zz .ii))))) fun a h=>t_take_off 7 (bA 38 255) rfl rfl rfl rfl (.inl (congrArg Value.bool (ef hc_9))) rfl rfl h (hS.sub (.cons mr (.rr (.rr (.zz .ii))))) fun a h=>t_take_off 8 (bA 38 511) rfl rfl rfl rfl (.inl (congrArg Value.bool (ef hc_9))) rfl rfl h (hS.sub (.cons mr (.rr (.rr (.zz .ii))))) fun a h=>t_take_off 9 (bA 38 1023) rfl rfl rfl rfl (.inl (congrArg Value.bool (ef hc_9))) rfl rfl h (hS.sub (.cons mr (.rr (.rr (.zz .ii))))) fun a h=>t_take_off 10 (bA 38 2047) rfl rfl rfl rfl (.inl (congrArg Value.bool (ef hc_9))) rfl rfl h (hS.sub (.cons mr (.rr (.rr (.zz .ii))))) fun a h=>t_take_off 11 (bA 38 4095) rfl rfl rfl rfl (.inl (congrArg Value.bool (ef hc_9))) rfl rfl h (hS.sub (.cons mr (.rr (.rr (.zz .ii))))) fun a h=>t_take_off 12 (bA 38 8191) rfl rfl rfl rfl (.inl (congrArg Value.bool (ef hc_9))) rfl rfl h (hS.sub (.cons mr (.rr (.rr (.zz .ii))))) fun a h=>?_
          refine t_take_off 13 (bA 38 16383) rfl rfl rfl rfl (.inl (congrArg Value.bool (ef hc_9))) rfl rfl h (hS.sub (.cons mr (.rr (.rr (.zz .ii))))) fun a h=>t_take_off 14 (bA 38 32767) rfl rfl rfl rfl (.inl (congrArg Value.bool (ef hc_9))) rfl rfl h (hS.sub (.cons mr (.rr (.rr (.zz .ii))))) fun a h=>t_take_off 15 (bA 38 65535) rfl rfl rfl rfl (.inr rfl) rfl rfl h (hS.sub (.cons mr (.rr (.rr (.zz .ii))))) fun a h=>t_take_off 16 (bA 38 131071) rfl rfl rfl rfl (.inr rfl) rfl rfl h (hS.sub (.cons mr (.rr (.rr (.zz .ii))))) fun a h=>t_take_off 17 (bA 38 262143) rfl rfl rfl rfl (.inr rfl) rfl rfl h (hS.sub (.cons mr (.rr (.rr (.zz .ii))))) fun a h=>t_take_off 18 (bA 38 524287) rfl rfl rfl rfl (.inr rfl) rfl rfl h (hS.sub (.cons mr (.rr (.rr (.zz .ii))))) fun a h=>t_take_off 19 (bA 38 1048575) rfl rfl rfl rfl (.inr rfl) rfl rfl h (hS.sub (.cons mr (.rr (.rr (.zz .ii))))) fun a h=>t_take_off 20 (bA 38 2097151) rfl rfl rfl rfl (.inr rfl) rfl rfl h (hS.sub (.cons mr (.rr (.rr (.zz .ii))))) fun a h=>t_take_off 21 (bA 38 4194303) rfl rfl rfl rfl (.inr rfl) rfl rfl h (hS.sub (.cons mr (.rr (.rr (.zz .ii))))) fun a h=>?_
          refine t_take_off 22 (bA 38 8388607) rfl rfl rfl rfl (.inr rfl) rfl rfl h (hS.sub (.cons mr (.rr (.rr (.zz .ii))))) fun a h=>t_take_off 23 (bA 38 16777215) rfl rfl rfl rfl (.inl (congrArg Value.bool (ef hc_9))) rfl rfl h (hS.sub (.cons mr (.rr (.rr (.zz .ii))))) fun a h=>t_take_off 24 (bA 38 33554431) rfl rfl rfl rfl (.inl (congrArg Value.bool (ef hc_9))) rfl rfl h (hS.sub (.cons mr (.rr (.rr (.zz .ii))))) fun a h=>t_take_off 25 (bA 38 67108863) rfl rfl rfl rfl (.inr rfl) rfl rfl h (hS.sub (.cons mr (.rr (.rr (.zz .ii))))) fun a h=>t_take_off 26 (bA 38 134217727) rfl rfl rfl rfl (.inr rfl) rfl rfl h (hS.sub (.cons mr (.rr (.rr (.zz .ii))))) fun a h=>t_take_off 27 (bA 38 268435455) rfl rfl rfl rfl (.inr rfl) rfl rfl h (hS.sub (.cons mr (.rr (.rr (.zz .ii))))) fun a h=>t_take_off 28 (bA 38 536870911) rfl rfl rfl rfl (.inr rfl) rfl rfl h (hS.sub (.cons mr (.rr (.rr (.zz .ii))))) fun a h=>t_take_off 29 (bA 38 1073741823) rfl rfl rfl rfl (.inr rfl) rfl rfl h (hS.sub (.cons mr (.rr (.rr (.zz .ii))))) fun a h=>?_
          refine t_take_off 30 (bA 38 2147483647) rfl rfl rfl rfl (.inr rfl) rfl rfl h (hS.sub (.cons mr (.rr (.rr (.zz .ii))))) fun a h=>t_take_off 31 (bA 38 4294967295) rfl rfl rfl rfl (.inr rfl) rfl rfl h (hS.sub (.cons mr (.rr (.rr (.zz .ii))))) fun a h=>t_take_off 32 (bA 38 8589934591) rfl rfl rfl rfl (.inr rfl) rfl rfl h (hS.sub (.cons mr (.rr (.rr (.zz .ii))))) fun a h=>t_take_off 33 (bA 38 17179869183) rfl rfl rfl rfl (.inr rfl) rfl rfl h (hS.sub (.cons mr (.rr (.rr (.zz .ii))))) fun a h=>t_take_off 34 (bA 38 34359738367) rfl rfl rfl rfl (.inr rfl) rfl rfl h (hS.sub (.cons mr (.rr (.rr (.zz .ii))))) fun a h=>t_take_off 35 (bA 38 68719476735) rfl rfl rfl rfl (.inl (congrArg Value.bool (ef hc_9))) rfl rfl h (hS.sub (.cons mr (.rr (.rr (.zz .ii))))) fun a h=>t_take_on 36 (bA 38 137438953471) rfl rfl rfl rfl (nf (bt hc_8)) rfl rfl h (hS.sub (.cons mr (.rr (.rr (.zz .ii))))) (v := .bool false) (fun w hS => r_pick_f h rfl (ef hc_9) rfl) fun a h=>t_take 37 (bA 38 274877906943) rfl rfl rfl rfl h (hS.sub (.cons mr (.rr (.rr (.zz .ii))))) (v := .bool false) (fun w hS => r_pick_f h rfl (nf (bt hc_8)) rfl) fun a h=>?_
          refine h_done (by kernel_rfl) ?_
          exact x_then_n (hJ_j_7 false H _ _ ⟨N_13, (h.keep [0, 1, 2, 6, 7, 8, 9, 10, 402]), (hS.sel [0, 1, 2, 1002, 4, 1004, 1005] (by decide)), mr⟩)
        ·refine t_take_off 4 (bA 38 31) rfl rfl rfl rfl (.inl (congrArg Value.bool (nt (bf hc_8)))) rfl rfl h (hS.sub (.cons mr (.rr (.rr (.zz .ii))))) fun a h=>t_take_off 5 (bA 38 63) rfl rfl rfl rfl (.inl (congrArg Value.bool (nt (bf hc_8)))) rfl rfl h (hS.sub (.cons mr (.rr (.rr (.zz .ii))))) fun a h=>t_take_off 6 (bA 38 127) rfl rfl rfl rfl (.inr rfl) rfl rfl h (hS.sub (.cons mr (.rr (.rr (.zz .ii))))) fun a h=>t_take_off 7 (bA 38 255) rfl rfl rfl rfl (.inr rfl) rfl rfl h (hS.sub (.cons mr (.rr (.rr (.zz .ii))))) fun a h=>t_take_off 8 (bA 38 511) rfl rfl rfl rfl (.inr rfl) rfl rfl h (hS.sub (.cons mr (.rr (.rr (.zz .ii))))) fun a h=>t_take_off 9 (bA 38 1023) rfl rfl rfl rfl (.inr rfl) rfl rfl h (hS.sub (.cons mr (.rr (.rr (.zz .ii))))) fun a h=>t_take_off 10 (bA 38 2047) rfl rfl rfl rfl (.inr rfl) rfl rfl h (hS.sub (.cons mr (.rr (.rr (.zz .ii))))) fun a h=>t_take_off 11 (bA 38 4095) rfl rfl rfl rfl (.inr rfl) rfl rfl h (hS.sub (.cons mr (.rr (.rr (.zz .ii))))) fun a h=>t_take_off 12 (bA 38 8191) rfl rfl rfl rfl (.inr rfl) rfl rfl h (hS.sub (.cons mr (.rr (.rr (.zz .ii))))) fun a h=>?_
         refine t_take_off 13 (bA 38 16383) rfl rfl rfl rfl (.inr rfl) rfl rfl h (hS.sub (.cons mr (.rr (.rr (.zz .ii))))) fun a h=>t_take_off 14 (bA 38 32767) rfl rfl rfl rfl (.inr rfl) rfl rfl h (hS.sub (.cons mr (.rr (.rr (.zz .ii))))) fun a h=>t_take_off 15 (bA 38 65535) rfl rfl rfl rfl (.inr rfl) rfl rfl h (hS.sub (.cons mr (.rr (.rr (.zz .ii))))) fun a h=>t_take_off 16 (bA 38 131071) rfl rfl rfl rfl (.inr rfl) rfl rfl h (hS.sub (.cons mr (.rr (.rr (.zz .ii))))) fun a h=>t_take_off 17 (bA 38 262143) rfl rfl rfl rfl (.inr rfl) rfl rfl h (hS.sub (.cons mr (.rr (.rr (.zz .ii))))) fun a h=>t_take_off 18 (bA 38 524287) rfl rfl rfl rfl (.inr rfl) rfl rfl h (hS.sub (.cons mr (.rr (.rr (.zz .ii))))) fun a h=>t_take_off 19 (bA 38 1048575) rfl rfl rfl rfl (.inr rfl) rfl rfl h (hS.sub (.cons mr (.rr (.rr (.zz .ii))))) fun a h=>t_take_off 20 (bA 38 2097151) rfl rfl rfl rfl (.inr rfl) rfl rfl h (hS.sub (.cons mr (.rr (.rr (.zz .ii))))) fun a h=>t_take_off 21 (bA 38 4194303) rfl rfl rfl rfl (.inr rfl) rfl rfl h (hS.sub (.cons mr (.rr (.rr (.zz .ii))))) fun a h=>?_
         refine t_take_off 22 (bA 38 8388607) rfl rfl rfl rfl (.inr rfl) rfl rfl h (hS.sub (.cons mr (.rr (.rr (.zz .ii))))) fun a h=>t_take_off 23 (bA 38 16777215) rfl rfl rfl rfl (.inr rfl) rfl rfl h (hS.sub (.cons mr (.rr (.rr (.zz .ii))))) fun a h=>t_take_off 24 (bA 38 33554431) rfl rfl rfl rfl (.inr rfl) rfl rfl h (hS.sub (.cons mr (.rr (.rr (.zz .ii))))) fun a h=>t_take_off 25 (bA 38 67108863) rfl rfl rfl rfl (.inr rfl) rfl rfl h (hS.sub (.cons mr (.rr (.rr (.zz .ii))))) fun a h=>t_take_off 26 (bA 38 134217727) rfl rfl rfl rfl (.inr rfl) rfl rfl h (hS.sub (.cons mr (.rr (.rr (.zz .ii))))) fun a h=>t_take_off 27 (bA 38 268435455) rfl rfl rfl rfl (.inr rfl) rfl rfl h (hS.sub (.cons mr (.rr (.rr (.zz .ii))))) fun a h=>t_take_off 28 (bA 38 536870911) rfl rfl rfl rfl (.inr rfl) rfl rfl h (hS.sub (.cons mr (.rr (.rr (.zz .ii))))) fun a h=>t_take_off 29 (bA 38 1073741823) rfl rfl rfl rfl (.inr rfl) rfl rfl h (hS.sub (.cons mr (.rr (.rr (.zz .ii))))) fun a h=>t_take_off 30 (bA 38 2147483647) rfl rfl rfl rfl (.inr rfl) rfl rfl h (hS.sub (.cons mr (.rr (.rr (.zz .ii))))) fun a h=>?_
         refine t_take_off 31 (bA 38 4294967295) rfl rfl rfl rfl (.inr rfl) rfl rfl h (hS.sub (.cons mr (.rr (.rr (.zz .ii))))) fun a h=>t_take_off 32 (bA 38 8589934591) rfl rfl rfl rfl (.inr rfl) rfl rfl h (hS.sub (.cons mr (.rr (.rr (.zz .ii))))) fun a h=>t_take_off 33 (bA 38 17179869183) rfl rfl rfl rfl (.inr rfl) rfl rfl h (hS.sub (.cons mr (.rr (.rr (.zz .ii))))) fun a h=>t_take_off 34 (bA 38 34359738367) rfl rfl rfl rfl (.inr rfl) rfl rfl h (hS.sub (.cons mr (.rr (.rr (.zz .ii))))) fun a h=>t_take_off 35 (bA 38 68719476735) rfl rfl rfl rfl (.inr rfl) rfl rfl h (hS.sub (.cons mr (.rr (.rr (.zz .ii))))) fun a h=>t_take_off 36 (bA 38 137438953471) rfl rfl rfl rfl (.inl (congrArg Value.bool (nt (bf hc_8)))) rfl rfl h (hS.sub (.cons mr (.rr (.rr (.zz .ii))))) fun a h=>t_take 37 (bA 38 274877906943) rfl rfl rfl rfl h (hS.sub (.cons mr (.rr (.rr (.zz .ii))))) (v := .bool true) (fun w hS => r_pick_t h rfl (nt (bf hc_8)) rfl) fun a h=>h_done (by kernel_rfl) ?_
         exact x_then_n (hJ_j_7 true H _ _ ⟨N_13, (h.keep [0, 1, 2, 6, 7, 8, 9, 10, 402]), (hS.sel [0, 1, 2, 1002, 4, 1004, 1005] (by decide)), mr⟩)
       clear hKJ_11
       refine wp_region_lit <| mv h rfl fun a h=>s_cmp (b := decide ((w64 ((band .i64 (shr .i64 t_3 4) 15) - 1)) ≥ 0)) h rfl rfl rfl (.inr (.inr (.inr (.inr (.inr ⟨rfl, rfl⟩))))) fun a h=>mv h rfl fun a h=>?_
       obtain ⟨hc_15, H⟩ | ⟨hc_15, H⟩ := ii H
       ·refine s_on h rfl rfl (dt hc_15) <| mv h rfl fun a h=>s_on h rfl rfl (dt hc_15) <| mv h rfl fun a h=>s_on h rfl rfl (dt hc_15) <| s_lenO h rfl U50 rfl ho_3 fun a h=>s_on h rfl rfl (dt hc_15) <| s_cmp (b := decide ((w64 ((band .i64 (shr .i64 t_3 4) 15) - 1)) < (x_7.length : Int))) h rfl rfl rfl (.inr (.inr (.inl ⟨rfl, rfl⟩))) fun a h=>pt h rfl (dt hc_15) fun a h=>sg h rfl fun a h=>wpList_nil ?_
        exact x_then_n (hJ_j_6 (decide ((w64 ((band .i64 (shr .i64 t_3 4) 15) - 1)) < (x_7.length : Int))) H _ _ ⟨N_12, (h.keep [0, 1, 2, 6, 7, 8, 9, 10, 11, 12, 24, 25]), (hS.sel [0, 1, 2, 1002, 4, 5, 6] (by decide)), mr⟩)
       ·refine of h rfl rfl (df hc_15) fun a h=>of h rfl rfl (df hc_15) fun a h=>of h rfl rfl (df hc_15) fun a h=>of h rfl rfl (df hc_15) fun a h=>pf h rfl (df hc_15) fun a h=>sg h rfl fun a h=>wpList_nil ?_
        exact x_then_n (hJ_j_6 false H _ _ ⟨N_12, (h.keep [0, 1, 2, 6, 7, 8, 9, 10, 11, 12, 24, 25]), (hS.sel [0, 1, 2, 1002, 4, 5, 6] (by decide)), mr⟩)
     clear hKJ_10
     refine wp_region_lit <| mv h rfl fun a h=>?_
     obtain ⟨t_13, et_13, H⟩ := bs H
     refine s_call h rfl Try.call12 rfl (nets_Net_Count.calls _ x_9.n x_9.mask x_9.l _ t_13 w0 _ _ _ mr (hS.enter [0] (by decide)) (ho_4.rd (hS.own_zed [0] 1 (by decide)) (Mem.un_le (hA.trans (hS.le_zed [0])) (mr.trans (hS.new_zed [0])))) et_13) ?_
     rintro _ w_16 ⟨N_15, rfl, hS'⟩
     intro a h
     obtain ⟨N_16, hS'', le_12, ln_4⟩ := hS.call [0] (by decide) rfl (l' := [_]) (ow := []) rfl hS'
     replace hS : Sep w0 w_16 [N_16, _, _, _, _] Z := hS''
     refine mv h rfl fun a h=>s_lenO h rfl U50 rfl ho_3 fun a h=>s_cmp (b := (t_13 != (x_7.length : Int))) h rfl rfl rfl (.inr (.inl ⟨rfl, rfl⟩)) fun a h=>mv h rfl fun a h=>?_
     obtain ⟨hc_16, H⟩ | ⟨hc_16, H⟩ := ii H
     ·refine s_on h rfl rfl (xf hc_16) <| mv h rfl fun a h=>s_on h rfl rfl (xf hc_16) <| mv h rfl fun a h=>s_on h rfl rfl (xf hc_16) <| mv h rfl fun a h=>s_on h rfl rfl (xf hc_16) ?_
      obtain ⟨t_14, et_14, H⟩ := bs H
      refine s_call h rfl Try.call20 rfl (nets_Net_Apart.calls _ x_9.n x_9.mask x_9.l _ t_6 t_8 t_14 w0 _ _ _ mr (hS.enter [0] (by decide)) (ho_4.rd (hS.own_zed [0] 1 (by decide)) (Mem.un_le (hA.trans (hS.le_zed [0])) (le_12.trans (hS.new_zed [0])))) et_14) ?_
      rintro _ w_17 ⟨N_17, rfl, hS'⟩
      intro a h
      obtain ⟨N_18, hS'', le_13, ln_5⟩ := hS.call [0] (by decide) rfl (l' := [_]) (ow := []) rfl hS'
      replace hS : Sep w0 w_17 [N_18, _, _, _, _] Z := hS''
      refine s_on h rfl rfl (xf hc_16) <| mv h rfl fun a h=>s_on h rfl rfl (xf hc_16) <| s_cmp (b := (x_8 != 0)) h rfl rfl rfl (.inr (.inl ⟨rfl, rfl⟩)) fun a h=>s_on h rfl rfl (xf hc_16) <| mv h rfl fun a h=>?_
      obtain ⟨hc_17, H⟩ | ⟨hc_17, H⟩ := ii H
      ·refine of h rfl rfl (xf hc_17) fun a h=>of h rfl rfl (xf hc_17) fun a h=>of h rfl rfl (xf hc_17) fun a h=>of h rfl rfl (xf hc_17) fun a h=>of h rfl rfl (xf hc_17) fun a h=>of h rfl rfl (xf hc_17) fun a h=>of h rfl rfl (xf hc_17) fun a h=>of h rfl rfl (xf hc_17) fun a h=>of h rfl rfl (xf hc_17) fun a h=>of h rfl rfl (xf hc_17) fun a h=>of h rfl rfl (xf hc_17) fun a h=>s_on h rfl rfl (xf hc_16) <| pf h rfl (xf hc_17) fun a h=>?_
       refine s_on h rfl rfl (xf hc_16) <| s_beq (b := !(t_14 == false)) h rfl U4 rfl rfl (.inr ⟨rfl, rfl⟩) fun a h=>pf h rfl (xf hc_16) fun a h=>wpList_nil ?_
       replace h : Fr 404 a [(0, _), (1, _), (2, _), (6, _), (7, _), (8, _), (9, _), (10, _), (11, _), (350, .bool (!(t_14 == false)))] := h.keep [0, 1, 2, 6, 7, 8, 9, 10, 11, 350]
       exact x_then_n (hJ_j_5 (!(t_14 == false)) H _ _ ⟨N_18, (h.keep [0, 1, 2, 6, 7, 8, 9, 10, 11, 350]), (hS.sel [0, 1, 2, 1002, 4] (by decide)), (le_12.trans le_13)⟩)
      ·refine s_on h rfl rfl (xt hc_17) <| mv h rfl fun a h=>s_on h rfl rfl (xt hc_17) <| mv h rfl fun a h=>s_on h rfl rfl (xt hc_17) <| s_conv (wu64 t_6) h rfl U3 U48 rfl rfl fun a h=>s_on h rfl rfl (xt hc_17) <| s_shift (r := shr .i64 x_8 (wu64 t_6)) h rfl rfl rfl (wu64_nn _) (.inr ⟨rfl, rfl⟩) fun a h=>s_on h rfl rfl (xt hc_17) <| s_bits (i := shr .i64 x_8 (wu64 t_6)) (j := 1) (r := band .i64 (shr .i64 x_8 (wu64 t_6)) 1) h rfl rfl rfl (.inl ⟨rfl, rfl⟩) fun a h=>s_on h rfl rfl (xt hc_17) <| mv h rfl fun a h=>?_
       refine s_on h rfl rfl (xt hc_17) <| mv h rfl fun a h=>s_on h rfl rfl (xt hc_17) <| s_conv (wu64 t_8) h rfl U3 U48 rfl rfl fun a h=>s_on h rfl rfl (xt hc_17) <| s_shift (r := shr .i64 x_8 (wu64 t_8)) h rfl rfl rfl (wu64_nn _) (.inr ⟨rfl, rfl⟩) fun a h=>s_on h rfl rfl (xt hc_17) <| s_bits (i := shr .i64 x_8 (wu64 t_8)) (j := 1) (r := band .i64 (shr .i64 x_8 (wu64 t_8)) 1) h rfl rfl rfl (.inl ⟨rfl, rfl⟩) fun a h=>s_on h rfl rfl (xt hc_17) <| s_cmp (b := ((band .i64 (shr .i64 x_8 (wu64 t_6)) 1) != (band .i64 (shr .i64 x_8 (wu64 t_8)) 1))) h rfl rfl rfl (.inr (.inl ⟨rfl, rfl⟩)) fun a h=>s_on h rfl rfl (xf hc_16) <| pt h rfl (xt hc_17) fun a h=>?_
       refine s_on h rfl rfl (xf hc_16) <| s_beq (b := !(t_14 == ((band .i64 (shr .i64 x_8 (wu64 t_6)) 1) != (band .i64 (shr .i64 x_8 (wu64 t_8)) 1)))) h rfl U4 rfl rfl (.inr ⟨rfl, rfl⟩) fun a h=>pf h rfl (xf hc_16) fun a h=>wpList_nil ?_
       replace h : Fr 404 a [(0, _), (1, _), (2, _), (6, _), (7, _), (8, _), (9, _), (10, _), (11, _), (350, .bool (!(t_14 == ((band .i64 (shr .i64 x_8 (wu64 t_6)) 1) != (band .i64 (shr .i64 x_8 (wu64 t_8)) 1)))))] := h.keep [0, 1, 2, 6, 7, 8, 9, 10, 11, 350]
       exact x_then_n (hJ_j_5 (!(t_14 == ((band .i64 (shr .i64 x_8 (wu64 t_6)) 1) != (band .i64 (shr .i64 x_8 (wu64 t_8)) 1)))) H _ _ ⟨N_18, (h.keep [0, 1, 2, 6, 7, 8, 9, 10, 11, 350]), (hS.sel [0, 1, 2, 1002, 4] (by decide)), (le_12.trans le_13)⟩)
     ·refine of h rfl rfl (xt hc_16) fun a h=>of h rfl rfl (xt hc_16) fun a h=>of h rfl rfl (xt hc_16) fun a h=>of h rfl rfl (xt hc_16) fun a h=>of h rfl rfl (xt hc_16) fun a h=>of h rfl rfl (xt hc_16) fun a h=>of h rfl rfl (xt hc_16) fun a h=>s_offu h rfl rfl rfl fun a h=>s_offu h rfl rfl rfl fun a h=>s_offu h rfl rfl rfl fun a h=>s_offu h rfl rfl rfl fun a h=>s_offu h rfl rfl rfl fun a h=>?_
      refine s_offu h rfl rfl rfl fun a h=>s_offu h rfl rfl rfl fun a h=>s_offu h rfl rfl rfl fun a h=>s_offu h rfl rfl rfl fun a h=>s_offu h rfl rfl rfl fun a h=>s_offu h rfl rfl rfl fun a h=>of h rfl rfl (xt hc_16) fun a h=>of h rfl rfl (xt hc_16) fun a h=>pt h rfl (xt hc_16) fun a h=>wpList_nil ?_
      replace h : Fr 404 a [(0, _), (1, _), (2, _), (6, _), (7, _), (8, _), (9, _), (10, _), (11, _), (350, .bool true)] := h.keep [0, 1, 2, 6, 7, 8, 9, 10, 11, 350]
      exact x_then_n (hJ_j_5 true H _ _ ⟨N_16, (h.keep [0, 1, 2, 6, 7, 8, 9, 10, 11, 350]), (hS.sel [0, 1, 2, 1002, 4] (by decide)), le_12⟩)
    clear hKJ_7
    refine c_block <| c_seq fun KJ_13 hKJ_13 => qr <| s_cmp (b := ((band .i64 t_4 15) == 0)) h rfl rfl rfl (.inl ⟨rfl, rfl⟩) fun a h=>sg h rfl fun a h=>wpList_nil <| x_then_n ?_
    have hJ_j_8 : ∀ (x_13 : Bool), hocketlaw23_NetsPlays.J8 K x1 x_3 x2 x0 x_4 x_1 t_3 (hocketlaw23_NetsPlays.L1 K x1 x2 x0 (fun v => hocketlaw23_NetsPlays.J1 K) k_1) x_2 t_4 x_6 x_13 = some r → ∀ (a : Act) (w_18 : World), (∃ (N_19 : Mem), Fr 404 a [(0, iV (mx (w64 ((band .i64 x0 7) + 0)) 1)), (1, p1_0), (2, p2_1), (6, .bool false), (7, .pointer (some ⟨g_1, 0, none⟩)), (8, v_2), (9, iV x_2), (10, iV x_3), (11, iV (w64 ((band .i64 (shr .i64 t_3 4) 15) - 1))), (12, .bool x_6), (64, iV (band .i64 t_4 15)), (74, .bool x_13)] ∧ Sep w0 w_18 [N_19, bx g_1 58 (E58 x_4 v_3), M_3, M_2] Z ∧ N_8.le N_19) → KJ_13 a w_18 := by
     clear H h hS a
     rintro x_13 H a w_18 ⟨N_19, h, hS, le_14⟩
     unfold hocketlaw23_NetsPlays.J8 at H
     refine hKJ_13 _ _ ?_
     obtain ⟨hc_18, H⟩ | ⟨hc_18, H⟩ := ii H
     ·refine c_cond_t h rfl hc_18 <| c_seq fun KJ_14 hKJ_14 => h_begin (S := fun w => Sep w0 w [N_19, bx g_1 58 (E58 x_4 v_3), M_3, M_2] Z) 12 (by kernel_rfl) rfl (bA 12 0) (by kernel_rfl) hS fun w_19 hS => ?_
      refine t_take 0 (bA 12 1) rfl rfl rfl rfl h (hS.sub .ii) (v := p1_0) (fun w hS => r_move h rfl) fun a h=>t_take 1 (bA 12 3) rfl rfl rfl rfl h (hS.sub .ii) (v := iV x_3) (fun w hS => r_move h rfl) fun a h=>?_
      obtain ⟨t_15, et_15, H⟩ := bs H
      refine t_takeE 2 (bA 12 7) rfl rfl rfl rfl h (hS.sub .ii) (f := fun ad => .pointer (some ad)) (r_index h U22 ti3 rfl rfl rfl hp1_0 et_15) ?_
      rintro ad_8 ⟨cs_8, hk_8, hc_19⟩
      obtain rfl := (show cs_8 = [iV t_15] from hk_8)
      intro a h
      refine t_take 3 (bA 12 15) rfl rfl rfl rfl h (hS.sub .ii) (v := iV t_15) (fun w hS => r_load h rfl (el_one (o := 0) (fun j c h => Mem.cell_le (hA.trans hS.old) (hc_19 j c h)) U3 rfl rfl)) fun a h=>t_take 4 (bA 12 31) rfl rfl rfl rfl h (hS.sub .ii) (v := iV (shr .i64 t_15 4)) (fun w hS => r_shift (r := shr .i64 t_15 4) h rfl rfl (by decide) (.inr ⟨rfl, rfl⟩)) fun a h=>t_take 5 (bA 12 63) rfl rfl rfl rfl h (hS.sub .ii) (v := p1_0) (fun w hS => r_move h rfl) fun a h=>t_take 6 (bA 12 127) rfl rfl rfl rfl h (hS.sub .ii) (v := iV x_3) (fun w hS => r_move h rfl) fun a h=>?_
      obtain ⟨t_16, et_16, H⟩ := bs H
      refine t_takeE 7 (bA 12 255) rfl rfl rfl rfl h (hS.sub .ii) (f := fun ad => .pointer (some ad)) (r_index h U22 ti3 rfl rfl rfl hp1_0 et_16) ?_
      rintro ad_9 ⟨cs_9, hk_9, hc_20⟩
      obtain rfl := (show cs_9 = [iV t_16] from hk_9)
      intro a h
      refine t_take 8 (bA 12 511) rfl rfl rfl rfl h (hS.sub .ii) (v := iV t_16) (fun w hS => r_load h rfl (el_one (o := 0) (fun j c h => Mem.cell_le (hA.trans hS.old) (hc_20 j c h)) U3 rfl rfl)) fun a h=>?_
      obtain ⟨t_17, et_17, H⟩ := bs H
      refine h_state fun GD_1 hGD_1 => ?_
      have hD_171_4095 : ∀ (a : Act) (w_20 : World), (∃ (v_10 : Value) (v_11 : Value) (v_12 : Value) (v_13 : Value) (v_14 : Value) (v_15 : Value) (g_3 : Nat) (N_20 : Mem) (M_7 : Mem) (M_8 : Mem) (M_9 : Mem), Fr 404 a [(0, iV (mx (w64 ((band .i64 x0 7) + 0)) 1)), (1, p1_0), (2, p2_1), (6, .bool false), (7, .pointer (some ⟨g_1, 0, none⟩)), (8, v_2), (9, iV x_2), (10, iV x_3), (11, iV (w64 ((band .i64 (shr .i64 t_3 4) 15) - 1))), (13, .pointer (some ⟨g_3, 0, none⟩))] ∧ Sep w0 w_20 [N_20, bx g_1 58 (E58 x_4 v_3), M_3, M_2, bx g_3 32 (E32 t_17 v_10 v_11 v_12 v_13 v_14 v_15), M_7, M_8, M_9] Z ∧ N_19.le N_20 ∧ Own Kd.u8 5 M_7 Mem.no v_10 t_17.Data ∧ Own (Kd.int .i64) 3 M_8 Mem.no v_11 t_17.Have ∧ Own (Kd.int .i64) 3 M_9 Mem.no v_12 t_17.Need ∧ Rd Kd.u8 N_20 v_13 t_17.Entry.Cmd.Key ∧ Rd Kd.u8 N_20 v_14 t_17.Entry.Cmd.Val ∧ Rd Kd.u8 N_20 v_15 t_17.Entry.Cmd.Old) → GD_1 0 (bA 12 4095) a w_20 := by
       rintro a w_20 ⟨v_10, v_11, v_12, v_13, v_14, v_15, g_3, N_20, M_7, M_8, M_9, h, hS, le_15, ho_5, ho_6, ho_7, hr_6, hr_7, hr_8⟩
       refine (hGD_1 _ _ _ _).2 <| h_done (by kernel_rfl) ?_
       replace h : Fr 404 a [(0, _), (1, _), (2, _), (6, _), (7, _), (8, _), (9, _), (10, _), (11, _), (13, _)] := h.keep [0, 1, 2, 6, 7, 8, 9, 10, 11, 13]
       refine x_then_n (hKJ_14 _ _ ?_)
       refine c_seq fun KJ_15 hKJ_15 => c_seq fun KJ_16 hKJ_16 => ?_
       have hJ_j_9 : ∀ (x_14 : Bool), hocketlaw23_NetsPlays.J9 K x2 x_3 x0 x_4 x_1 x1 t_3 (hocketlaw23_NetsPlays.L1 K x1 x2 x0 (fun v => hocketlaw23_NetsPlays.J1 K) k_1) x_2 t_17 x_14 = some r → ∀ (a : Act) (w_21 : World), (∃ (N_21 : Mem), Fr 404 a [(0, iV (mx (w64 ((band .i64 x0 7) + 0)) 1)), (1, p1_0), (2, p2_1), (6, .bool false), (7, .pointer (some ⟨g_1, 0, none⟩)), (8, v_2), (9, iV x_2), (10, iV x_3), (11, iV (w64 ((band .i64 (shr .i64 t_3 4) 15) - 1))), (13, .pointer (some ⟨g_3, 0, none⟩)), (112, .bool x_14)] ∧ Sep w0 w_21 [N_21, bx g_1 58 (E58 x_4 v_3), M_3, M_2, bx g_3 32 (E32 t_17 v_10 v_11 v_12 v_13 v_14 v_15), M_7, M_8, M_9] Z ∧ N_20.le N_21) → KJ_16 a w_21 := by
        clear H h hS a
        rintro x_14 H a w_21 ⟨N_21, h, hS, le_16⟩
        unfold hocketlaw23_NetsPlays.J9 at H
        refine hKJ_16 _ _ ?_
        have hJ_j_10 : ∀ (x_15 : api_Msg), hocketlaw23_NetsPlays.J10 K x0 x_4 x_1 x1 x_3 t_3 (hocketlaw23_NetsPlays.L1 K x1 x2 x0 (fun v => hocketlaw23_NetsPlays.J1 K) k_1) x_2 x_15 = some r → ∀ (a : Act) (w_22 : World), (∃ (v_16 : Value) (v_17 : Value) (v_18 : Value) (v_19 : Value) (v_20 : Value) (v_21 : Value) (N_22 : Mem), Fr 404 a [(0, iV (mx (w64 ((band .i64 x0 7) + 0)) 1)), (1, p1_0), (2, p2_1), (6, .bool false), (7, .pointer (some ⟨g_1, 0, none⟩)), (8, v_2), (9, iV x_2), (10, iV x_3), (11, iV (w64 ((band .i64 (shr .i64 t_3 4) 15) - 1))), (13, .pointer (some ⟨g_3, 0, none⟩))] ∧ Sep w0 w_22 [N_22, bx g_1 58 (E58 x_4 v_3), M_3, M_2, bx g_3 32 (E32 x_15 v_16 v_17 v_18 v_19 v_20 v_21), Mem.no, Mem.no, Mem.no] Z ∧ N_21.le N_22 ∧ Rd Kd.u8 (A.un N_22) v_16 x_15.Data ∧ Rd (Kd.int .i64) (A.un N_22) v_17 x_15.Have ∧ Rd (Kd.int .i64) (A.un N_22) v_18 x_15.Need ∧ Rd Kd.u8 (A.un N_22) v_19 x_15.Entry.Cmd.Key ∧ Rd Kd.u8 (A.un N_22) v_20 x_15.Entry.Cmd.Val ∧ Rd Kd.u8 (A.un N_22) v_21 x_15.Entry.Cmd.Old) → KJ_15 a w_22 := by
         clear H h hS a
         rintro x_15 H a w_22 ⟨v_16, v_17, v_18, v_19, v_20, v_21, N_22, h, hS, le_17, hr_9, hr_10, hr_11, hr_12, hr_13, hr_14⟩
         unfold hocketlaw23_NetsPlays.J10 at H
         refine hKJ_15 _ _ <| c_seq fun KJ_17 hKJ_17 => ?_
         have hJ_j_11 : ∀ (x_16 : Bool), hocketlaw23_NetsPlays.J11 K x_4 x_15 x_1 x1 x_3 x0 t_3 (hocketlaw23_NetsPlays.L1 K x1 x2 x0 (fun v => hocketlaw23_NetsPlays.J1 K) k_1) x_2 x_16 = some r → ∀ (a : Act) (w_23 : World), (∃ (N_23 : Mem), Fr 404 a [(0, iV (mx (w64 ((band .i64 x0 7) + 0)) 1)), (1, p1_0), (2, p2_1), (6, .bool false), (7, .pointer (some ⟨g_1, 0, none⟩)), (8, v_2), (9, iV x_2), (10, iV x_3), (11, iV (w64 ((band .i64 (shr .i64 t_3 4) 15) - 1))), (13, .pointer (some ⟨g_3, 0, none⟩)), (14, .bool x_16)] ∧ Sep w0 w_23 [N_23, bx g_1 58 (E58 x_4 v_3), M_3, M_2, bx g_3 32 (E32 x_15 v_16 v_17 v_18 v_19 v_20 v_21), Mem.no, Mem.no, Mem.no] Z ∧ N_22.le N_23) → KJ_17 a w_23 := by
          clear H h hS a
          rintro x_16 H a w_23 ⟨N_23, h, hS, le_18⟩
          unfold hocketlaw23_NetsPlays.J11 at H
          refine hKJ_17 _ _ <| c_seq fun KJ_18 hKJ_18 => qr <| mv h rfl fun a h=>s_load h rfl rfl (hS.load_agg (p := 4) (us := (E32 x_15 v_16 v_17 v_18 v_19 v_20 v_21)) rfl U32 rfl ti32 rfl rfl) fun a h=>?_
          obtain ⟨t_18, et_18, H⟩ := bs H
          refine s_call h rfl Try.call10 rfl (nets_Net_Send.calls K _ x_4.n x_4.mask x_4.l _ _ x_15 _ _ _ _ _ _ t_18 w0 _ _ (A.un N_23) (Mem.un_le (hA.trans (hS.le_zed [0, 1])) (hS.new_zed [0, 1])) (hS.enter [0, 1] (by decide)) (ho_2.mono (Mem.un_left (le_5.trans (le_6.trans (le_14.trans (le_15.trans (le_16.trans (le_17.trans le_18)))))))) (hr_9.mono (Mem.un_left le_18)) (hr_10.mono (Mem.un_left le_18)) (hr_11.mono (Mem.un_left le_18)) (hr_12.mono (Mem.un_left le_18)) (hr_13.mono (Mem.un_left le_18)) (hr_14.mono (Mem.un_left le_18)) et_18) ?_
          rintro _ w_24 ⟨v_22, N_24, M_10, rfl, hS', hr_15⟩
          intro a h
          obtain ⟨N_25, hS'', le_19, ln_6⟩ := hS.call [0, 1] (by decide) rfl (l' := [_, _]) (ow := []) rfl hS'
          replace hS : Sep w0 w_24 [N_25, _, _, _, _, _, _, _] Z := hS''
          have hr_16 : Own k_nets_frame 60 M_10 (A.un N_25) v_22 t_18.2.2.2 := hr_15.mono (Mem.un_le (Mem.un_left le_19) (ln_6.trans (hS.sndA hA)))
          refine mv h rfl fun a h=>s_beq (b := !(t_18.1 == x_16)) h rfl U4 rfl rfl (.inr ⟨rfl, rfl⟩) fun a h=>wpList_nil <| x_then_n ?_
          obtain ⟨hc_21, H⟩ | ⟨hc_21, H⟩ := ii H
          ·refine c_cond_f h rfl (nf (bt hc_21)) <| wp_skip <| x_then_n (hKJ_18 _ _ ?_)
           refine qr <| mv h rfl fun a h=>wpList_nil <| x_then_n ?_
           obtain ⟨hc_22, H⟩ | ⟨hc_22, H⟩ := ii H
           ·refine c_cond_t h rfl hc_22 <| h_begin (S := fun w => Sep w0 w [N_25, bx g_1 58 [iV t_18.2.1, iV t_18.2.2.1, v_22], M_10, Mem.no, bx g_3 32 (E32 x_15 v_16 v_17 v_18 v_19 v_20 v_21), Mem.no, Mem.no, Mem.no] Z) 11 (by kernel_rfl) rfl (bA 11 0) (by kernel_rfl) hS fun w_25 hS => ?_
            refine t_take 0 (bA 11 1) rfl rfl rfl rfl h (hS.sub (.cons mr (.rr (.rr (.zz (.rr (.zz (.zz (.zz .ii))))))))) (v := v_2) (fun w hS => r_move h rfl) fun a h=>t_take 1 (bA 11 3) rfl rfl rfl rfl h (hS.sub (.cons mr (.rr (.rr (.zz (.rr (.zz (.zz (.zz .ii))))))))) (v := .pointer (some ⟨g_3, 1, none⟩)) (fun w hS => r_fieldAddr h U32 rfl ti3 rfl rfl rfl) fun a h=>t_take 2 (bA 11 7) rfl rfl rfl rfl h (hS.sub (.cons mr (.rr (.rr (.zz (.rr (.zz (.zz (.zz .ii))))))))) (v := iV x_15.From) (fun w hS => r_load h rfl (hS.load_one (p := 4) rfl U3 rfl rfl)) fun a h=>t_take 3 (bA 11 15) rfl rfl rfl rfl h (hS.sub (.cons mr (.rr (.rr (.zz (.rr (.zz (.zz (.zz .ii))))))))) (v := .pointer (some ⟨g_3, 2, none⟩)) (fun w hS => r_fieldAddr h U32 rfl ti3 rfl rfl rfl) fun a h=>t_take 4 (bA 11 31) rfl rfl rfl rfl h (hS.sub (.cons mr (.rr (.rr (.zz (.rr (.zz (.zz (.zz .ii))))))))) (v := iV x_15.To) (fun w hS => r_load h rfl (hS.load_one (p := 4) rfl U3 rfl rfl)) fun a h=>t_take 5 (bA 11 63) rfl rfl rfl rfl h (hS.sub (.cons mr (.rr (.rr (.zz (.rr (.zz (.zz (.zz .ii))))))))) (v := .agg (E32 x_15 v_16 v_17 v_18 v_19 v_20 v_21).toArray) (fun w hS => r_load h rfl (hS.load_agg (p := 4) (us := (E32 x_15 v_16 v_17 v_18 v_19 v_20 v_21)) rfl U32 rfl ti32 rfl rfl)) fun a h=>?_
            refine h_event 6 (bA 11 127) rfl (by kernel_rfl) (by kernel_rfl) ?_
            obtain ⟨t_19, et_19, H⟩ := bs H
            refine s_call h rfl Try.call22 rfl (hocketref11_Wrap.calls K x_15 _ _ _ _ _ _ t_19 w0 _ _ _ mr (hS.enter [] (by decide)) (hr_9.mono (Mem.un_le (hA.trans (hS.le_zed [])) ((le_18.trans le_19).trans (hS.new_zed [])))) (hr_10.mono (Mem.un_le (hA.trans (hS.le_zed [])) ((le_18.trans le_19).trans (hS.new_zed [])))) (hr_11.mono (Mem.un_le (hA.trans (hS.le_zed [])) ((le_18.trans le_19).trans (hS.new_zed [])))) (hr_12.mono (Mem.un_le (hA.trans (hS.le_zed [])) ((le_18.trans le_19).trans (hS.new_zed [])))) (hr_13.mono (Mem.un_le (hA.trans (hS.le_zed [])) ((le_18.trans le_19).trans (hS.new_zed [])))) (hr_14.mono (Mem.un_le (hA.trans (hS.le_zed [])) ((le_18.trans le_19).trans (hS.new_zed [])))) et_19) ?_
            rintro v_23 w_26 ⟨_, N_26, M_11, rfl, hS', hr_17⟩
            intro a h
            obtain ⟨N_27, hS'', le_20, ln_7⟩ := hS.call [] (by decide) rfl (l' := []) (ow := [_]) rfl hS'
            replace hS : Sep w0 w_26 [N_27, _, _, _, _, _, _, _, _] Z := hS''
            refine wpList_nil <| x_then_n ⟨(hS.sub (.cons le_20 (.rr (.rr (.zz (.rr (.zz (.zz (.zz .nn))))))))), ?_⟩
            refine t_take 7 (bA 11 255) rfl rfl rfl rfl h (hS.sub (.cons le_20 (.rr (.rr (.zz (.rr (.zz (.zz (.zz .nn))))))))) (v := .agg ([iV x_15.From, iV x_15.To, v_23, .bool false] : List Value).toArray) (fun w hS => r_build h ti53 pl53 rfl (.cons rfl (.cons rfl (.cons hr_17.cells .nil))) (cs := [iV x_15.From, iV x_15.To, v_23, .bool false]) (by kernel_rfl)) fun a h=>h_event 8 (bA 11 511) rfl (by kernel_rfl) (by kernel_rfl) ?_
            obtain ⟨N_28, hS', le_21, lo_1⟩ := hS.freeze 7 rfl
            replace hS : Sep w0 w_26 [N_28, _, _, _, _, _, _, _, Mem.no] Z := hS'
            have hq_1 : Reps k_hocketlaw23_flight N_28 ([(⟨x_15.From, x_15.To, t_19, false⟩ : hocketlaw23_flight)] : List hocketlaw23_flight) _ := ((Reps.one (d := k_hocketlaw23_flight) (x := (⟨x_15.From, x_15.To, t_19, false⟩ : hocketlaw23_flight)) (k_hocketlaw23_flight.mk' (hr_17.rd lo_1 (Mem.no_le _)))).append (Reps.nil k_hocketlaw23_flight _))
            refine s_buildSlice h rfl U50 ti53 rfl rfl rfl (.cons rfl .nil) rfl rfl rfl hS hq_1 rfl fun w_27 v_24 M_12 hS' ho_8 a h => ?_
            replace hS : Sep w0 w_27 [_, _, _, _, _, _, _, _, _, M_12] Z := hS'
            refine wpList_nil <| x_then_n ⟨(hS.sub (.cons (le_20.trans le_21) (.rr (.rr (.zz (.rr (.zz (.zz (.zz .nn))))))))), ?_⟩
            refine h_event 9 (bA 11 1023) rfl (by kernel_rfl) (by kernel_rfl) ?_
            obtain ⟨t_20, et_20, H⟩ := bs H
            refine s_append (J := N_28) (I' := N_28) (p := 3) 2932031007402 h rfl rfl rfl U50 ti53 rfl rfl rfl rfl hS rfl ho_1 (ho_8.src (hS.own 9)) (le_5.trans (le_6.trans (le_14.trans (le_15.trans (le_16.trans (le_17.trans (le_18.trans (le_19.trans (le_20.trans le_21))))))))) mr et_20 fun w_28 v_25 M_13 hS' ho_9 a h => ?_
            replace hS : Sep w0 w_28 [_, _, _, M_13, _, _, _, _, _, _] Z := hS'
            refine wpList_nil <| x_then_n ⟨(hS.sub (.cons (le_20.trans le_21) (.rr (.rr (.zz (.rr (.zz (.zz (.zz .nn))))))))), ?_⟩
            refine t_take 10 (bA 11 2047) rfl rfl rfl rfl h (hS.sub (.cons (le_20.trans le_21) (.rr (.rr (.zz (.rr (.zz (.zz (.zz .nn))))))))) (v := v_25) (fun w hS => r_assign h rfl) fun a h=>h_done (by kernel_rfl) <| x_block_n ?_
            exact x_then_n (hJ_j_4 t_20 x_2 (⟨t_18.2.1, t_18.2.2.1, t_18.2.2.2⟩ : nets_Net) H _ _ ⟨v_25, v_22, N_28, M_13, M_10, (h.keep [0, 1, 2, 6, 7, 8, 9, 10, 11]), (hS.sel [0, 1, 2, 1002, 3] (by decide)), (le_14.trans (le_15.trans (le_16.trans (le_17.trans (le_18.trans (le_19.trans (le_20.trans le_21))))))), (ho_9.mono mr), (hr_16.mono (Mem.un_left (le_20.trans le_21)))⟩)
           ·refine c_cond_f h rfl (ef hc_22) <| wp_skip <| x_block_n ?_
            exact x_then_n (hJ_j_4 x_1 x_2 (⟨t_18.2.1, t_18.2.2.1, t_18.2.2.2⟩ : nets_Net) H _ _ ⟨v_2, v_22, N_25, M_2, M_10, (h.keep [0, 1, 2, 6, 7, 8, 9, 10, 11]), (hS.sel [0, 1, 2, 1002, 3] (by decide)), (le_14.trans (le_15.trans (le_16.trans (le_17.trans (le_18.trans le_19))))), (ho_1.mono (le_5.trans (le_6.trans (le_14.trans (le_15.trans (le_16.trans (le_17.trans (le_18.trans le_19)))))))), (hr_16.mono (Mem.un_left mr))⟩)
          ·cases H
         clear hKJ_17
         refine wp_region_lit <| s_load h rfl rfl (hS.load_agg (p := 4) (us := (E32 x_15 v_16 v_17 v_18 v_19 v_20 v_21)) rfl U32 rfl ti32 rfl rfl) fun a h=>?_
         obtain ⟨t_21, et_21, H⟩ := bs H
         refine s_call h rfl Try.call21 rfl (hocketref11_Ok.calls K x_15 _ _ _ _ _ _ t_21 w0 _ _ _ mr (hS.enter [] (by decide)) (hr_9.mono (Mem.un_le (hA.trans (hS.le_zed [])) (mr.trans (hS.new_zed [])))) (hr_10.mono (Mem.un_le (hA.trans (hS.le_zed [])) (mr.trans (hS.new_zed [])))) (hr_11.mono (Mem.un_le (hA.trans (hS.le_zed [])) (mr.trans (hS.new_zed [])))) (hr_12.mono (Mem.un_le (hA.trans (hS.le_zed [])) (mr.trans (hS.new_zed [])))) (hr_13.mono (Mem.un_le (hA.trans (hS.le_zed [])) (mr.trans (hS.new_zed [])))) (hr_14.mono (Mem.un_le (hA.trans (hS.le_zed [])) (mr.trans (hS.new_zed [])))) et_21) ?_
         rintro _ w_29 ⟨N_29, rfl, hS'⟩
         intro a h
         obtain ⟨N_30, hS'', le_22, ln_8⟩ := hS.call [] (by decide) rfl (l' := []) (ow := []) rfl hS'
         replace hS : Sep w0 w_29 [N_30, _, _, _, _, _, _, _] Z := hS''
         refine mv h rfl fun a h=>?_
         obtain ⟨hc_23, H⟩ | ⟨hc_23, H⟩ := ii H
         ·refine s_on h rfl rfl hc_23 <| s_fieldAddr h rfl U32 rfl ti3 rfl rfl fun a h=>s_on h rfl rfl hc_23 <| s_load h rfl rfl (hS.load_one (p := 4) rfl U3 rfl rfl) fun a h=>s_on h rfl rfl hc_23 <| mv h rfl fun a h=>s_on h rfl rfl hc_23 <| s_cmp (b := decide (x_15.From < (mx (w64 ((band .i64 x0 7) + 0)) 1))) h rfl rfl rfl (.inr (.inr (.inl ⟨rfl, rfl⟩))) fun a h=>pt h rfl hc_23 fun a h=>mv h rfl fun a h=>?_
          obtain ⟨hc_24, H⟩ | ⟨hc_24, H⟩ := ii H
          ·refine s_on h rfl rfl (dt hc_24) <| s_fieldAddr h rfl U32 rfl ti3 rfl rfl fun a h=>s_on h rfl rfl (dt hc_24) <| s_load h rfl rfl (hS.load_one (p := 4) rfl U3 rfl rfl) fun a h=>s_on h rfl rfl (dt hc_24) <| mv h rfl fun a h=>s_on h rfl rfl (dt hc_24) <| s_cmp (b := decide (x_15.To < (mx (w64 ((band .i64 x0 7) + 0)) 1))) h rfl rfl rfl (.inr (.inr (.inl ⟨rfl, rfl⟩))) fun a h=>pt h rfl (dt hc_24) fun a h=>sg h rfl fun a h=>wpList_nil ?_
           exact x_then_n (hJ_j_11 (decide (x_15.To < (mx (w64 ((band .i64 x0 7) + 0)) 1))) H _ _ ⟨N_30, (h.keep [0, 1, 2, 6, 7, 8, 9, 10, 11, 13, 14]), (hS.sel [0, 1, 2, 3, 4, 1004, 1005, 1006] (by decide)), le_22⟩)
          ·refine of h rfl rfl (df hc_24) fun a h=>of h rfl rfl (df hc_24) fun a h=>of h rfl rfl (df hc_24) fun a h=>of h rfl rfl (df hc_24) fun a h=>pf h rfl (df hc_24) fun a h=>sg h rfl fun a h=>wpList_nil ?_
           exact x_then_n (hJ_j_11 false H _ _ ⟨N_30, (h.keep [0, 1, 2, 6, 7, 8, 9, 10, 11, 13, 14]), (hS.sel [0, 1, 2, 3, 4, 1004, 1005, 1006] (by decide)), le_22⟩)
         ·refine of h rfl rfl (ef hc_23) fun a h=>of h rfl rfl (ef hc_23) fun a h=>of h rfl rfl (ef hc_23) fun a h=>of h rfl rfl (ef hc_23) fun a h=>pf h rfl (ef hc_23) fun a h=>mv h rfl fun a h=>oo h rfl rfl fun a h=>oo h rfl rfl fun a h=>oo h rfl rfl fun a h=>oo h rfl rfl fun a h=>pf h rfl rfl fun a h=>sg h rfl fun a h=>?_
          refine wpList_nil ?_
          exact x_then_n (hJ_j_11 false H _ _ ⟨N_30, (h.keep [0, 1, 2, 6, 7, 8, 9, 10, 11, 13, 14]), (hS.sel [0, 1, 2, 3, 4, 1004, 1005, 1006] (by decide)), le_22⟩)
        clear hKJ_15
        obtain ⟨hc_25, H⟩ | ⟨hc_25, H⟩ := ii H
        ·refine c_cond_t h rfl hc_25 <| wp_region_lit <| mv h rfl fun a h=>mv h rfl fun a h=>?_
         obtain ⟨t_22, et_22, H⟩ := bs H
         refine v_index h rfl U49 ti32 rfl rfl rfl hp2_1 (hA.trans hS.old) et_22 fun ad_10 cs_10 hk_10 hc_26 => ?_
         obtain ⟨v_26, v_27, v_28, v_29, v_30, v_31, rfl, hr_18, hr_19, hr_20, hr_21, hr_22, hr_23⟩ := k_api_Msg.open' hk_10
         intro a h
         refine s_load h rfl rfl (el_agg (o := 0) (us := (E32 t_22 v_26 v_27 v_28 v_29 v_30 v_31)) hc_26 U32 rfl ti32 rfl rfl) fun a h=>?_
         refine sto 4 h rfl rfl hS rfl ti32 rfl rfl rfl (oa 11 rfl (oc hr_18.one (oa 2 rfl (oc hr_19.one (oc hr_20.one (oa 5 rfl (oc hr_21.one (oc hr_22.one (oc hr_23.one on0))))))))) fun w_30 hS' => ?_
         replace hS : Sep w0 w_30 [_, _, _, _, bx g_3 32 (E32 t_22 v_26 v_27 v_28 v_29 v_30 v_31), _, _, _] Z := hS'
         refine wpList_nil ?_
         exact x_then_n (hJ_j_10 t_22 H _ _ ⟨v_26, v_27, v_28, v_29, v_30, v_31, N_21, (h.keep [0, 1, 2, 6, 7, 8, 9, 10, 11, 13]), (hS.sel [0, 1, 2, 3, 4, 1004, 1005, 1006] (by decide)), mr, (hr_18.mono (Mem.le_un _ _)), (hr_19.mono (Mem.le_un _ _)), (hr_20.mono (Mem.le_un _ _)), (hr_21.mono (Mem.le_un _ _)), (hr_22.mono (Mem.le_un _ _)), (hr_23.mono (Mem.le_un _ _))⟩)
        ·refine c_cond_f h rfl (ef hc_25) <| wp_skip ?_
         obtain ⟨N_31, hS', le_23, lo_2⟩ := hS.freeze 4 rfl
         replace hS : Sep w0 w_21 [N_31, _, _, _, _, Mem.no, _, _] Z := hS'
         obtain ⟨N_32, hS', le_24, lo_3⟩ := hS.freeze 5 rfl
         replace hS : Sep w0 w_21 [N_32, _, _, _, _, _, Mem.no, _] Z := hS'
         obtain ⟨N_33, hS', le_25, lo_4⟩ := hS.freeze 6 rfl
         replace hS : Sep w0 w_21 [N_33, _, _, _, _, _, _, Mem.no] Z := hS'
         exact x_then_n (hJ_j_10 t_17 H _ _ ⟨v_10, v_11, v_12, v_13, v_14, v_15, N_33, (h.keep [0, 1, 2, 6, 7, 8, 9, 10, 11, 13]), (hS.sel [0, 1, 2, 3, 4, 1004, 1005, 1006] (by decide)), (le_23.trans (le_24.trans le_25)), ((ho_5.rd lo_2 (Mem.no_le _)).mono ((le_24.trans le_25).trans (hS.sndA hA))), ((ho_6.rd lo_3 (Mem.no_le _)).mono (le_25.trans (hS.sndA hA))), ((ho_7.rd lo_4 (Mem.no_le _)).mono (mr.trans (hS.sndA hA))), (hr_6.mono ((le_16.trans (le_23.trans (le_24.trans le_25))).trans (hS.sndA hA))), (hr_7.mono ((le_16.trans (le_23.trans (le_24.trans le_25))).trans (hS.sndA hA))), (hr_8.mono ((le_16.trans (le_23.trans (le_24.trans le_25))).trans (hS.sndA hA)))⟩)
       clear hKJ_16
       refine wp_region_lit <| mv h rfl fun a h=>mv h rfl fun a h=>?_
       obtain ⟨t_23, et_23, H⟩ := bs H
       refine v_index h rfl U22 ti3 rfl rfl rfl hp1_0 (hA.trans hS.old) et_23 fun ad_11 cs_11 hk_11 hc_27 => ?_
       obtain rfl := (show cs_11 = [iV t_23] from hk_11)
       intro a h
       refine s_load h rfl rfl (el_one (o := 0) hc_27 U3 rfl rfl) fun a h=>s_shift (r := shr .i64 t_23 28) h rfl rfl rfl (by decide) (.inr ⟨rfl, rfl⟩) fun a h=>s_bits (i := shr .i64 t_23 28) (j := 3) (r := band .i64 (shr .i64 t_23 28) 3) h rfl rfl rfl (.inl ⟨rfl, rfl⟩) fun a h=>s_cmp (b := ((band .i64 (shr .i64 t_23 28) 3) == 0)) h rfl rfl rfl (.inl ⟨rfl, rfl⟩) fun a h=>mv h rfl fun a h=>?_
       obtain ⟨hc_28, H⟩ | ⟨hc_28, H⟩ := ii H
       ·refine s_on h rfl rfl (bt hc_28) <| mv h rfl fun a h=>s_on h rfl rfl (bt hc_28) <| mv h rfl fun a h=>s_on h rfl rfl (bt hc_28) <| s_len h rfl U49 rfl hp2_1 fun a h=>s_on h rfl rfl (bt hc_28) <| s_cmp (b := decide (x_3 < (x2.length : Int))) h rfl rfl rfl (.inr (.inr (.inl ⟨rfl, rfl⟩))) fun a h=>pt h rfl (bt hc_28) fun a h=>mv h rfl fun a h=>?_
        obtain ⟨hc_29, H⟩ | ⟨hc_29, H⟩ := ii H
        ·refine s_on h rfl rfl (dt hc_29) <| mv h rfl fun a h=>s_on h rfl rfl (dt hc_29) <| mv h rfl fun a h=>s_on h rfl rfl (dt hc_29) ?_
         obtain ⟨t_24, et_24, H⟩ := bs H
         refine v_index h rfl U49 ti32 rfl rfl rfl hp2_1 (hA.trans hS.old) et_24 fun ad_12 cs_12 hk_12 hc_30 => ?_
         obtain ⟨v_32, v_33, v_34, v_35, v_36, v_37, rfl, hr_24, hr_25, hr_26, hr_27, hr_28, hr_29⟩ := k_api_Msg.open' hk_12
         intro a h
         refine s_on h rfl rfl (dt hc_29) <| s_fieldAddr h rfl U32 rfl ti26 rfl rfl fun a h=>s_on h rfl rfl (dt hc_29) <| s_load h rfl rfl (el_one (o := 11) hc_30 U26 rfl rfl) fun a h=>s_on h rfl rfl (dt hc_29) <| s_len h rfl U26 rfl hr_24 fun a h=>s_on h rfl rfl (dt hc_29) <| s_cmp (b := decide ((t_24.Data.length : Int) < 100)) h rfl rfl rfl (.inr (.inr (.inl ⟨rfl, rfl⟩))) fun a h=>pt h rfl (dt hc_29) fun a h=>wpList_nil ?_
         exact x_then_n (hJ_j_9 (decide ((t_24.Data.length : Int) < 100)) H _ _ ⟨N_20, (h.keep [0, 1, 2, 6, 7, 8, 9, 10, 11, 13, 112]), (hS.sel [0, 1, 2, 3, 4, 5, 6, 7] (by decide)), mr⟩)
        ·refine of h rfl rfl (df hc_29) fun a h=>of h rfl rfl (df hc_29) fun a h=>of h rfl rfl (df hc_29) fun a h=>of h rfl rfl (df hc_29) fun a h=>of h rfl rfl (df hc_29) fun a h=>of h rfl rfl (df hc_29) fun a h=>of h rfl rfl (df hc_29) fun a h=>pf h rfl (df hc_29) fun a h=>wpList_nil ?_
         exact x_then_n (hJ_j_9 false H _ _ ⟨N_20, (h.keep [0, 1, 2, 6, 7, 8, 9, 10, 11, 13, 112]), (hS.sel [0, 1, 2, 3, 4, 5, 6, 7] (by decide)), mr⟩)
       ·refine of h rfl rfl (bf hc_28) fun a h=>of h rfl rfl (bf hc_28) fun a h=>of h rfl rfl (bf hc_28) fun a h=>of h rfl rfl (bf hc_28) fun a h=>pf h rfl (bf hc_28) fun a h=>mv h rfl fun a h=>oo h rfl rfl fun a h=>oo h rfl rfl fun a h=>oo h rfl rfl fun a h=>oo h rfl rfl fun a h=>oo h rfl rfl fun a h=>oo h rfl rfl fun a h=>?_
        refine oo h rfl rfl fun a h=>pf h rfl rfl fun a h=>wpList_nil ?_
        exact x_then_n (hJ_j_9 false H _ _ ⟨N_20, (h.keep [0, 1, 2, 6, 7, 8, 9, 10, 11, 13, 112]), (hS.sel [0, 1, 2, 3, 4, 5, 6, 7] (by decide)), mr⟩)
      have hD_171_2047 : ∀ (a : Act) (w_31 : World), (∃ (v_38 : Value) (v_39 : Value) (v_40 : Value) (v_41 : Value) (v_42 : Value) (v_43 : Value) (g_4 : Nat) (N_34 : Mem) (M_14 : Mem) (M_15 : Mem) (M_16 : Mem), Fr 404 a [(0, iV (mx (w64 ((band .i64 x0 7) + 0)) 1)), (1, p1_0), (2, p2_1), (6, .bool false), (7, .pointer (some ⟨g_1, 0, none⟩)), (8, v_2), (9, iV x_2), (10, iV x_3), (11, iV (w64 ((band .i64 (shr .i64 t_3 4) 15) - 1))), (13, .pointer (some ⟨g_4, 0, none⟩)), (90, .agg (E32 t_17 v_38 v_39 v_40 v_41 v_42 v_43).toArray)] ∧ Sep w0 w_31 [N_34, bx g_1 58 (E58 x_4 v_3), M_3, M_2, bx g_4 32 Q0, M_14, M_15, M_16] Z ∧ N_19.le N_34 ∧ Own Kd.u8 5 M_14 Mem.no v_38 t_17.Data ∧ Own (Kd.int .i64) 3 M_15 Mem.no v_39 t_17.Have ∧ Own (Kd.int .i64) 3 M_16 Mem.no v_40 t_17.Need ∧ Rd Kd.u8 N_34 v_41 t_17.Entry.Cmd.Key ∧ Rd Kd.u8 N_34 v_42 t_17.Entry.Cmd.Val ∧ Rd Kd.u8 N_34 v_43 t_17.Entry.Cmd.Old) → GD_1 1 (bA 12 2047) a w_31 := by
       rintro a w_31 ⟨v_38, v_39, v_40, v_41, v_42, v_43, g_4, N_34, M_14, M_15, M_16, h, hS, le_26, ho_10, ho_11, ho_12, hr_30, hr_31, hr_32⟩
       refine (hGD_1 _ _ _ _).2 <| h_events [11] (by kernel_rfl) (by simp) ?_
       intro i hi; simp only [List.mem_cons, List.not_mem_nil, or_false] at hi; rcases hi with rfl
       refine ⟨_, (bA 12 4095), rfl, by kernel_rfl, ?_⟩
       refine sto 4 h rfl rfl hS rfl ti32 rfl rfl rfl (oa 11 rfl (oc ho_10.one (oa 2 rfl (oc ho_11.one (oc ho_12.one (oa 5 rfl (oc hr_30.one (oc hr_31.one (oc hr_32.one on0))))))))) fun w_32 hS' => ?_
       replace hS : Sep w0 w_32 [_, _, _, _, bx g_4 32 (E32 t_17 v_38 v_39 v_40 v_41 v_42 v_43), _, _, _] Z := hS'
       refine wpList_nil <| x_then_n ⟨(hS.sub (.cons le_26 (.rr (.rr (.rr .nn))))), ?_⟩
       exact (hGD_1 _ _ _ _).1 (hD_171_4095 _ _ ⟨v_38, v_39, v_40, v_41, v_42, v_43, g_4, N_34, M_14, M_15, M_16, (h.keep [0, 1, 2, 6, 7, 8, 9, 10, 11, 13]), (hS.sel [0, 1, 2, 3, 4, 5, 6, 7] (by decide)), le_26, ho_10, ho_11, ho_12, hr_30, hr_31, hr_32⟩)
      have hD_171_1023 : ∀ (a : Act) (w_33 : World), (∃ (v_44 : Value) (v_45 : Value) (v_46 : Value) (v_47 : Value) (v_48 : Value) (v_49 : Value) (N_35 : Mem) (M_17 : Mem) (M_18 : Mem) (M_19 : Mem), Fr 404 a [(0, iV (mx (w64 ((band .i64 x0 7) + 0)) 1)), (1, p1_0), (2, p2_1), (6, .bool false), (7, .pointer (some ⟨g_1, 0, none⟩)), (8, v_2), (9, iV x_2), (10, iV x_3), (11, iV (w64 ((band .i64 (shr .i64 t_3 4) 15) - 1))), (90, .agg (E32 t_17 v_44 v_45 v_46 v_47 v_48 v_49).toArray)] ∧ Sep w0 w_33 [N_35, bx g_1 58 (E58 x_4 v_3), M_3, M_2, M_17, M_18, M_19] Z ∧ N_19.le N_35 ∧ Own Kd.u8 5 M_17 Mem.no v_44 t_17.Data ∧ Own (Kd.int .i64) 3 M_18 Mem.no v_45 t_17.Have ∧ Own (Kd.int .i64) 3 M_19 Mem.no v_46 t_17.Need ∧ Rd Kd.u8 N_35 v_47 t_17.Entry.Cmd.Key ∧ Rd Kd.u8 N_35 v_48 t_17.Entry.Cmd.Val ∧ Rd Kd.u8 N_35 v_49 t_17.Entry.Cmd.Old) → GD_1 2 (bA 12 1023) a w_33 := by
       rintro a w_33 ⟨v_44, v_45, v_46, v_47, v_48, v_49, N_35, M_17, M_18, M_19, h, hS, le_27, ho_13, ho_14, ho_15, hr_33, hr_34, hr_35⟩
       refine (hGD_1 _ _ _ _).2 <| h_events [10] (by kernel_rfl) (by simp) ?_
       intro i hi; simp only [List.mem_cons, List.not_mem_nil, or_false] at hi; rcases hi with rfl
       refine ⟨_, (bA 12 2047), rfl, by kernel_rfl, ?_⟩
       refine v_alloc h rfl ti32 hS fun w_34 g_5 hS' a h => ?_
       replace hS : Sep w0 w_34 [_, _, _, _, _, _, _, bx g_5 32 Q0] Z := hS'
       refine wpList_nil <| x_then_n ⟨(hS.sub (.cons le_27 (.rr (.rr (.rr .nn))))), ?_⟩
       exact (hGD_1 _ _ _ _).1 (hD_171_2047 _ _ ⟨v_44, v_45, v_46, v_47, v_48, v_49, g_5, N_35, M_17, M_18, M_19, (h.keep [0, 1, 2, 6, 7, 8, 9, 10, 11, 13, 90]), (hS.sel [0, 1, 2, 3, 7, 4, 5, 6] (by decide)), le_27, ho_13, ho_14, ho_15, hr_33, hr_34, hr_35⟩)
      have hD_171_1535 : ∀ (a : Act) (w_35 : World), (∃ (g_6 : Nat) (N_36 : Mem), Fr 404 a [(0, iV (mx (w64 ((band .i64 x0 7) + 0)) 1)), (1, p1_0), (2, p2_1), (6, .bool false), (7, .pointer (some ⟨g_1, 0, none⟩)), (8, v_2), (9, iV x_2), (10, iV x_3), (11, iV (w64 ((band .i64 (shr .i64 t_3 4) 15) - 1))), (13, .pointer (some ⟨g_6, 0, none⟩)), (85, iV (shr .i64 t_15 4)), (89, iV t_16)] ∧ Sep w0 w_35 [N_36, bx g_1 58 (E58 x_4 v_3), M_3, M_2, bx g_6 32 Q0] Z ∧ N_19.le N_36) → GD_1 2 (bA 12 1535) a w_35 := by
       rintro a w_35 ⟨g_6, N_36, h, hS, le_28⟩
       refine (hGD_1 _ _ _ _).2 <| h_events [9] (by kernel_rfl) (by simp) ?_
       intro i hi; simp only [List.mem_cons, List.not_mem_nil, or_false] at hi; rcases hi with rfl
       refine ⟨_, (bA 12 2047), rfl, by kernel_rfl, ?_⟩
       refine s_call h rfl Try.call14 rfl (hocketlaw11_Msg.calls K (shr .i64 t_15 4) t_16 t_17 w0 _ _ _ mr (hS.enter [] (by decide))  et_17) ?_
       rintro _ w_36 ⟨v_50, v_51, v_52, v_53, v_54, v_55, N_37, M_20, M_21, M_22, rfl, hS', hr_36, hr_37, hr_38, hr_39, hr_40, hr_41⟩
       intro a h
       obtain ⟨N_38, hS'', le_29, ln_9⟩ := hS.call [] (by decide) rfl (l' := []) (ow := [_, _, _]) rfl hS'
       replace hS : Sep w0 w_36 [N_38, _, _, _, _, _, _, _] Z := hS''
       refine wpList_nil <| x_then_n ⟨(hS.sub (.cons (le_28.trans le_29) (.rr (.rr (.rr .nn))))), ?_⟩
       exact (hGD_1 _ _ _ _).1 (hD_171_2047 _ _ ⟨v_50, v_51, v_52, v_53, v_54, v_55, g_6, N_38, M_20, M_21, M_22, (h.keep [0, 1, 2, 6, 7, 8, 9, 10, 11, 13, 90]), (hS.sel [0, 1, 2, 3, 4, 5, 6, 7] (by decide)), (le_28.trans le_29), hr_36, hr_37, hr_38, (hr_39.mono ln_9), (hr_40.mono ln_9), (hr_41.mono ln_9)⟩)
      refine (hGD_1 _ _ _ _).2 <| h_events [9, 10] (by kernel_rfl) (by simp) ?_
      intro i hi; simp only [List.mem_cons, List.not_mem_nil, or_false] at hi; rcases hi with rfl | rfl
      ·refine ⟨_, (bA 12 1023), rfl, by kernel_rfl, ?_⟩
       refine s_call h rfl Try.call14 rfl (hocketlaw11_Msg.calls K (shr .i64 t_15 4) t_16 t_17 w0 _ _ _ mr (hS.enter [] (by decide))  et_17) ?_
       rintro _ w_37 ⟨v_56, v_57, v_58, v_59, v_60, v_61, N_39, M_23, M_24, M_25, rfl, hS', hr_42, hr_43, hr_44, hr_45, hr_46, hr_47⟩
       intro a h
       obtain ⟨N_40, hS'', le_30, ln_10⟩ := hS.call [] (by decide) rfl (l' := []) (ow := [_, _, _]) rfl hS'
       replace hS : Sep w0 w_37 [N_40, _, _, _, _, _, _] Z := hS''
       refine wpList_nil <| x_then_n ⟨(hS.sub (.cons le_30 (.rr (.rr (.rr .nn))))), ?_⟩
       exact (hGD_1 _ _ _ _).1 (hD_171_1023 _ _ ⟨v_56, v_57, v_58, v_59, v_60, v_61, N_40, M_23, M_24, M_25, (h.keep [0, 1, 2, 6, 7, 8, 9, 10, 11, 90]), (hS.sel [0, 1, 2, 3, 4, 5, 6] (by decide)), le_30, hr_42, hr_43, hr_44, (hr_45.mono ln_10), (hr_46.mono ln_10), (hr_47.mono ln_10)⟩)
      ·refine ⟨_, (bA 12 1535), rfl, by kernel_rfl, ?_⟩
       refine v_alloc h rfl ti32 hS fun w_38 g_7 hS' a h => ?_
       replace hS : Sep w0 w_38 [_, _, _, _, bx g_7 32 Q0] Z := hS'
       refine wpList_nil <| x_then_n ⟨(hS.sub (.cons mr (.rr (.rr (.rr .nn))))), ?_⟩
       exact (hGD_1 _ _ _ _).1 (hD_171_1535 _ _ ⟨g_7, N_19, (h.keep [0, 1, 2, 6, 7, 8, 9, 10, 11, 13, 85, 89]), (hS.sel [0, 1, 2, 3, 4] (by decide)), mr⟩)
     ·refine c_cond_f h rfl (ef hc_18) <| c_seq fun KJ_19 hKJ_19 => qr <| s_cmp (b := ((band .i64 t_4 15) == 6)) h rfl rfl rfl (.inl ⟨rfl, rfl⟩) fun a h=>sg h rfl fun a h=>wpList_nil ?_
      replace h : Fr 404 a [(0, _), (1, _), (2, _), (6, _), (7, _), (8, _), (9, _), (10, _), (11, _), (12, _), (64, _), (147, .bool ((band .i64 t_4 15) == 6))] := h.keep [0, 1, 2, 6, 7, 8, 9, 10, 11, 12, 64, 147]
      refine x_then_n ?_
      have hJ_j_12 : ∀ (x_17 : Bool), hocketlaw23_NetsPlays.J12 K x_4 t_3 x_6 x_1 x_2 x1 x_3 x0 (hocketlaw23_NetsPlays.L1 K x1 x2 x0 (fun v => hocketlaw23_NetsPlays.J1 K) k_1) t_4 x_17 = some r → ∀ (a : Act) (w_39 : World), (∃ (N_41 : Mem), Fr 404 a [(0, iV (mx (w64 ((band .i64 x0 7) + 0)) 1)), (1, p1_0), (2, p2_1), (6, .bool false), (7, .pointer (some ⟨g_1, 0, none⟩)), (8, v_2), (9, iV x_2), (10, iV x_3), (11, iV (w64 ((band .i64 (shr .i64 t_3 4) 15) - 1))), (12, .bool x_6), (64, iV (band .i64 t_4 15)), (147, .bool x_17)] ∧ Sep w0 w_39 [N_41, bx g_1 58 (E58 x_4 v_3), M_3, M_2] Z ∧ N_19.le N_41) → KJ_19 a w_39 := by
       clear H h hS a
       rintro x_17 H a w_39 ⟨N_41, h, hS, le_31⟩
       unfold hocketlaw23_NetsPlays.J12 at H
       refine hKJ_19 _ _ ?_
       obtain ⟨hc_31, H⟩ | ⟨hc_31, H⟩ := ii H
       ·refine c_cond_t h rfl hc_31 <| qr <| mv h rfl fun a h=>mv h rfl fun a h=>?_
        obtain ⟨t_25, et_25, H⟩ := bs H
        refine s_call h rfl Try.call11 rfl (nets_Net_Take.calls K _ x_4.n x_4.mask x_4.l _ _ (w64 ((band .i64 (shr .i64 t_3 4) 15) - 1)) t_25 w0 _ _ (A.un N_41) (Mem.un_le (hA.trans (hS.le_zed [0, 1])) (hS.new_zed [0, 1])) (hS.enter [0, 1] (by decide)) (ho_2.mono (Mem.un_left (le_5.trans (le_6.trans (le_14.trans le_31))))) et_25) ?_
        rintro _ w_40 ⟨v_62, v_63, v_64, v_65, v_66, v_67, v_68, N_42, M_26, M_27, M_28, M_29, M_30, M_31, M_32, rfl, hS', hr_48, hr_49, hr_50, hr_51, hr_52, hr_53, hr_54⟩
        intro a h
        obtain ⟨N_43, hS'', le_32, ln_11⟩ := hS.call [0, 1] (by decide) rfl (l' := [_, _]) (ow := [_, _, _, _, _, _]) rfl hS'
        replace hS : Sep w0 w_40 [N_43, _, _, _, _, _, _, _, _, _] Z := hS''
        have hr_55 : Own k_nets_frame 60 M_32 (A.un N_43) v_68 t_25.2.2.2.2 := hr_54.mono (Mem.un_le (Mem.un_left le_32) (ln_11.trans (hS.sndA hA)))
        refine mv h rfl fun a h=>s_extract h rfl rfl rfl fun a h=>s_extract h rfl rfl rfl fun a h=>v_alloc h rfl ti32 hS fun w_41 g_8 hS' a h => ?_
        replace hS : Sep w0 w_41 [_, _, _, _, _, _, _, _, _, _, bx g_8 32 Q0] Z := hS'
        refine sto 10 h rfl rfl hS rfl ti32 rfl rfl rfl (oa 11 rfl (oc hr_48.one (oa 2 rfl (oc hr_49.one (oc hr_50.one (oa 5 rfl (oc hr_51.one (oc hr_52.one (oc hr_53.one on0))))))))) fun w_42 hS' => ?_
        replace hS : Sep w0 w_42 [_, _, _, _, _, _, _, _, _, _, bx g_8 32 (E32 t_25.1 v_62 v_63 v_64 v_65 v_66 v_67)] Z := hS'
        refine sg h rfl fun a h=>nx <| qr <| v_alloc h rfl ti32 hS fun w_43 g_9 hS' a h => ?_
        replace hS : Sep w0 w_43 [_, _, _, _, _, _, _, _, _, _, _, bx g_9 32 Q0] Z := hS'
        refine nx <| qr <| sg h rfl fun a h=>nx <| c_seq fun KJ_20 hKJ_20 => qr <| mv h rfl fun a h=>wpList_nil ?_
        replace h : Fr 404 a [(0, _), (1, _), (2, _), (6, _), (7, _), (8, _), (9, _), (10, _), (11, _), (15, .pointer (some ⟨g_8, 0, none⟩)), (16, .bool t_25.2.1), (17, .pointer (some ⟨g_9, 0, none⟩)), (18, .bool false), (157, .bool x_6)] := h.keep [0, 1, 2, 6, 7, 8, 9, 10, 11, 15, 16, 17, 18, 157]
        refine x_then_n ?_
        have hJ_j_13 : ∀ (x_18 : List hocketlaw23_flight), ∀ (x_19 : Bool), ∀ (x_20 : api_Msg), hocketlaw23_NetsPlays.J13 K t_25 x1 x_3 x0 t_3 (hocketlaw23_NetsPlays.L1 K x1 x2 x0 (fun v => hocketlaw23_NetsPlays.J1 K) k_1) x_2 x_18 x_19 x_20 = some r → ∀ (a : Act) (w_44 : World), (∃ (v_69 : Value) (v_70 : Value) (v_71 : Value) (v_72 : Value) (v_73 : Value) (v_74 : Value) (v_75 : Value) (N_44 : Mem) (M_33 : Mem) (M_34 : Mem) (M_35 : Mem) (M_36 : Mem) (M_37 : Mem) (M_38 : Mem) (M_39 : Mem), Fr 404 a [(0, iV (mx (w64 ((band .i64 x0 7) + 0)) 1)), (1, p1_0), (2, p2_1), (6, .bool false), (7, .pointer (some ⟨g_1, 0, none⟩)), (8, v_69), (9, iV x_2), (10, iV x_3), (11, iV (w64 ((band .i64 (shr .i64 t_3 4) 15) - 1))), (15, .pointer (some ⟨g_8, 0, none⟩)), (16, .bool t_25.2.1), (17, .pointer (some ⟨g_9, 0, none⟩)), (18, .bool x_19)] ∧ Sep w0 w_44 [N_44, bx g_1 58 [iV t_25.2.2.1, iV t_25.2.2.2.1, v_68], M_32, Mem.no, M_26, M_27, M_28, M_29, M_30, M_31, bx g_8 32 (E32 t_25.1 v_62 v_63 v_64 v_65 v_66 v_67), bx g_9 32 (E32 x_20 v_70 v_71 v_72 v_73 v_74 v_75), M_33, M_34, M_35, M_36, M_37, M_38, M_39] Z ∧ N_43.le N_44 ∧ Own k_hocketlaw23_flight 53 M_33 N_44 v_69 x_18 ∧ Own Kd.u8 5 M_34 Mem.no v_70 x_20.Data ∧ Own (Kd.int .i64) 3 M_35 Mem.no v_71 x_20.Have ∧ Own (Kd.int .i64) 3 M_36 Mem.no v_72 x_20.Need ∧ Own Kd.u8 5 M_37 Mem.no v_73 x_20.Entry.Cmd.Key ∧ Own Kd.u8 5 M_38 Mem.no v_74 x_20.Entry.Cmd.Val ∧ Own Kd.u8 5 M_39 Mem.no v_75 x_20.Entry.Cmd.Old) → KJ_20 a w_44 := by
         clear H h hS a
         rintro x_18 x_19 x_20 H a w_44 ⟨v_69, v_70, v_71, v_72, v_73, v_74, v_75, N_44, M_33, M_34, M_35, M_36, M_37, M_38, M_39, h, hS, le_33, ho_16, ho_17, ho_18, ho_19, ho_20, ho_21, ho_22⟩
         unfold hocketlaw23_NetsPlays.J13 at H
         refine hKJ_20 _ _ <| c_seq fun KJ_21 hKJ_21 => wp_region_lit <| mv h rfl fun a h=>mv h rfl fun a h=>s_beq (b := !(t_25.2.1 == x_19)) h rfl U4 rfl rfl (.inr ⟨rfl, rfl⟩) fun a h=>mv h rfl fun a h=>?_
         obtain ⟨hc_32, H⟩ | ⟨hc_32, H⟩ := ii H
         ·refine s_on h rfl rfl (nf (bt hc_32)) <| s_load h rfl rfl (hS.load_agg (p := 10) (us := (E32 t_25.1 v_62 v_63 v_64 v_65 v_66 v_67)) rfl U32 rfl ti32 rfl rfl) fun a h=>s_on h rfl rfl (nf (bt hc_32)) <| s_load h rfl rfl (hS.load_agg (p := 11) (us := (E32 x_20 v_70 v_71 v_72 v_73 v_74 v_75)) rfl U32 rfl ti32 rfl rfl) fun a h=>?_
          refine s_on h rfl rfl (nf (bt hc_32)) ?_
          obtain ⟨t_26, et_26, H⟩ := bs H
          refine s_call h rfl Try.call17 rfl (hocketref11_Same.calls K t_25.1 _ _ _ _ _ _ x_20 _ _ _ _ _ _ t_26 w0 _ _ _ mr (hS.enter [] (by decide)) (hr_48.rd (hS.own_zed [] 3 (by decide)) (Mem.no_le _)) (hr_49.rd (hS.own_zed [] 4 (by decide)) (Mem.no_le _)) (hr_50.rd (hS.own_zed [] 5 (by decide)) (Mem.no_le _)) (hr_51.rd (hS.own_zed [] 6 (by decide)) (Mem.no_le _)) (hr_52.rd (hS.own_zed [] 7 (by decide)) (Mem.no_le _)) (hr_53.rd (hS.own_zed [] 8 (by decide)) (Mem.no_le _)) (ho_17.rd (hS.own_zed [] 12 (by decide)) (Mem.no_le _)) (ho_18.rd (hS.own_zed [] 13 (by decide)) (Mem.no_le _)) (ho_19.rd (hS.own_zed [] 14 (by decide)) (Mem.no_le _)) (ho_20.rd (hS.own_zed [] 15 (by decide)) (Mem.no_le _)) (ho_21.rd (hS.own_zed [] 16 (by decide)) (Mem.no_le _)) (ho_22.rd (hS.own_zed [] 17 (by decide)) (Mem.no_le _)) et_26) ?_
          rintro _ w_45 ⟨N_45, rfl, hS'⟩
          intro a h
          obtain ⟨N_46, hS'', le_34, ln_12⟩ := hS.call [] (by decide) rfl (l' := []) (ow := []) rfl hS'
          replace hS : Sep w0 w_45 [N_46, _, _, _, _, _, _, _, _, _, _, _, _, _, _, _, _, _, _] Z := hS''
          refine s_on h rfl rfl (nf (bt hc_32)) <| s_not h rfl rfl fun a h=>pf h rfl (nf (bt hc_32)) fun a h=>wpList_nil <| x_then_n (hKJ_21 _ _ ?_)
          obtain ⟨hc_33, H⟩ | ⟨hc_33, H⟩ := ii H
          ·refine c_cond_f h rfl (nf hc_33) <| wp_skip <| x_block_n ?_
           exact x_then_n (hJ_j_4 x_18 x_2 (⟨t_25.2.2.1, t_25.2.2.2.1, t_25.2.2.2.2⟩ : nets_Net) H _ _ ⟨v_69, v_68, N_46, M_33, M_32, (h.keep [0, 1, 2, 6, 7, 8, 9, 10, 11]), (hS.sel [0, 1, 2, 1002, 12] (by decide)), (le_14.trans (le_31.trans (le_32.trans (le_33.trans le_34)))), (ho_16.mono le_34), (hr_55.mono (Mem.un_left (le_33.trans le_34)))⟩)
          ·cases H
         ·cases H
        clear hKJ_20
        obtain ⟨hc_34, H⟩ | ⟨hc_34, H⟩ := ii H
        ·refine c_cond_t h rfl hc_34 <| c_seq fun KJ_22 hKJ_22 => c_seq fun KJ_23 hKJ_23 => ?_
         have hJ_j_14 : ∀ (x_21 : Bool), hocketlaw23_NetsPlays.J14 K x_1 t_3 t_25 x1 x_3 x0 (hocketlaw23_NetsPlays.L1 K x1 x2 x0 (fun v => hocketlaw23_NetsPlays.J1 K) k_1) x_2 x_21 = some r → ∀ (a : Act) (w_46 : World), (∃ (N_47 : Mem), Fr 404 a [(0, iV (mx (w64 ((band .i64 x0 7) + 0)) 1)), (1, p1_0), (2, p2_1), (6, .bool false), (7, .pointer (some ⟨g_1, 0, none⟩)), (8, v_2), (9, iV x_2), (10, iV x_3), (11, iV (w64 ((band .i64 (shr .i64 t_3 4) 15) - 1))), (15, .pointer (some ⟨g_8, 0, none⟩)), (16, .bool t_25.2.1), (17, .pointer (some ⟨g_9, 0, none⟩)), (18, .bool false), (180, .bool x_21)] ∧ Sep w0 w_46 [N_47, bx g_1 58 [iV t_25.2.2.1, iV t_25.2.2.2.1, v_68], M_32, M_2, M_26, M_27, M_28, M_29, M_30, M_31, bx g_8 32 (E32 t_25.1 v_62 v_63 v_64 v_65 v_66 v_67), bx g_9 32 Q0] Z ∧ N_43.le N_47) → KJ_23 a w_46 := by
          clear H h hS a
          rintro x_21 H a w_46 ⟨N_47, h, hS, le_35⟩
          unfold hocketlaw23_NetsPlays.J14 at H
          refine hKJ_23 _ _ ?_
          have hJ_j_15 : ∀ (x_22 : Bool), ∀ (x_23 : api_Msg), hocketlaw23_NetsPlays.J15 K x_1 t_3 t_25 x1 x_3 x0 (hocketlaw23_NetsPlays.L1 K x1 x2 x0 (fun v => hocketlaw23_NetsPlays.J1 K) k_1) x_2 x_22 x_23 = some r → ∀ (a : Act) (w_47 : World), (∃ (v_76 : Value) (v_77 : Value) (v_78 : Value) (v_79 : Value) (v_80 : Value) (v_81 : Value) (N_48 : Mem) (M_40 : Mem) (M_41 : Mem) (M_42 : Mem) (M_43 : Mem) (M_44 : Mem) (M_45 : Mem), Fr 404 a [(0, iV (mx (w64 ((band .i64 x0 7) + 0)) 1)), (1, p1_0), (2, p2_1), (6, .bool false), (7, .pointer (some ⟨g_1, 0, none⟩)), (8, v_2), (9, iV x_2), (10, iV x_3), (11, iV (w64 ((band .i64 (shr .i64 t_3 4) 15) - 1))), (15, .pointer (some ⟨g_8, 0, none⟩)), (16, .bool t_25.2.1), (17, .pointer (some ⟨g_9, 0, none⟩)), (18, .bool x_22)] ∧ Sep w0 w_47 [N_48, bx g_1 58 [iV t_25.2.2.1, iV t_25.2.2.2.1, v_68], M_32, M_2, M_26, M_27, M_28, M_29, M_30, M_31, bx g_8 32 (E32 t_25.1 v_62 v_63 v_64 v_65 v_66 v_67), bx g_9 32 (E32 x_23 v_76 v_77 v_78 v_79 v_80 v_81), M_40, M_41, M_42, M_43, M_44, M_45] Z ∧ N_47.le N_48 ∧ Own Kd.u8 5 M_40 Mem.no v_76 x_23.Data ∧ Own (Kd.int .i64) 3 M_41 Mem.no v_77 x_23.Have ∧ Own (Kd.int .i64) 3 M_42 Mem.no v_78 x_23.Need ∧ Own Kd.u8 5 M_43 Mem.no v_79 x_23.Entry.Cmd.Key ∧ Own Kd.u8 5 M_44 Mem.no v_80 x_23.Entry.Cmd.Val ∧ Own Kd.u8 5 M_45 Mem.no v_81 x_23.Entry.Cmd.Old) → KJ_22 a w_47 := by
           clear H h hS a
           rintro x_22 x_23 H a w_47 ⟨v_76, v_77, v_78, v_79, v_80, v_81, N_48, M_40, M_41, M_42, M_43, M_44, M_45, h, hS, le_36, ho_23, ho_24, ho_25, ho_26, ho_27, ho_28⟩
           unfold hocketlaw23_NetsPlays.J15 at H
           refine hKJ_22 _ _ ?_
           obtain ⟨N_49, hS', le_37, lo_5⟩ := hS.freeze 2 rfl
           replace hS : Sep w0 w_47 [N_49, _, _, Mem.no, _, _, _, _, _, _, _, _, _, _, _, _, _, _] Z := hS'
           refine h_begin (S := fun w => Sep w0 w [N_49, bx g_1 58 [iV t_25.2.2.1, iV t_25.2.2.2.1, v_68], M_32, Mem.no, M_26, M_27, M_28, M_29, M_30, M_31, bx g_8 32 (E32 t_25.1 v_62 v_63 v_64 v_65 v_66 v_67), bx g_9 32 (E32 x_23 v_76 v_77 v_78 v_79 v_80 v_81), M_40, M_41, M_42, M_43, M_44, M_45] Z) 11 (by kernel_rfl) rfl (bA 11 0) (by kernel_rfl) hS fun w_48 hS => ?_
           refine t_take 1 (bA 11 2) rfl rfl rfl rfl h (hS.sub (.cons mr (.rr (.rr (.zz .ii))))) (v := v_2) (fun w hS => r_move h rfl) fun a h=>t_take 2 (bA 11 6) rfl rfl rfl rfl h (hS.sub (.cons mr (.rr (.rr (.zz .ii))))) (v := iV (w64 ((band .i64 (shr .i64 t_3 4) 15) - 1))) (fun w hS => r_move h rfl) fun a h=>?_
           obtain ⟨t_27, et_27, H⟩ := bs H
           refine t_takeE 3 (bA 11 14) rfl rfl rfl rfl h (hS.sub (.cons mr (.rr (.rr (.zz .ii))))) (f := fun v => v) (r_slice h U50 ti53 rfl rfl (ho_1.rd lo_5 (le_5.trans (le_6.trans (le_14.trans (le_31.trans (le_32.trans (le_35.trans (le_36.trans le_37)))))))) rfl rfl et_27) fun v_82 hr_56 a h => t_take 5 (bA 11 46) rfl rfl rfl rfl h (hS.sub (.cons mr (.rr (.rr (.zz .ii))))) (v := v_2) (fun w hS => r_move h rfl) fun a h=>t_take 6 (bA 11 110) rfl rfl rfl rfl h (hS.sub (.cons mr (.rr (.rr (.zz .ii))))) (v := iV (w64 ((band .i64 (shr .i64 t_3 4) 15) - 1))) (fun w hS => r_move h rfl) fun a h=>t_take 7 (bA 11 238) rfl rfl rfl rfl h (hS.sub (.cons mr (.rr (.rr (.zz .ii))))) (v := iV (w64 ((w64 ((band .i64 (shr .i64 t_3 4) 15) - 1)) + 1))) (fun w hS => r_arith (r := w64 ((w64 ((band .i64 (shr .i64 t_3 4) 15) - 1)) + 1)) h rfl rfl (.inl ⟨rfl, rfl⟩)) fun a h=>?_
           obtain ⟨t_28, et_28, H⟩ := bs H
           refine t_takeE 8 (bA 11 494) rfl rfl rfl rfl h (hS.sub (.cons mr (.rr (.rr (.zz .ii))))) (f := fun v => v) (r_slice h U50 ti53 rfl rfl (ho_1.rd lo_5 (le_5.trans (le_6.trans (le_14.trans (le_31.trans (le_32.trans (le_35.trans (le_36.trans le_37)))))))) rfl rfl et_28) fun v_83 hr_57 a h => h_event 0 (bA 11 495) rfl (by kernel_rfl) (by kernel_rfl) ?_
           have hq_2 : Reps k_hocketlaw23_flight N_49 ([] : List hocketlaw23_flight) _ := (Reps.nil k_hocketlaw23_flight _)
           refine s_buildSlice h rfl U50 ti53 rfl rfl rfl .nil rfl rfl rfl hS hq_2 rfl fun w_49 v_84 M_46 hS' ho_29 a h => ?_
           replace hS : Sep w0 w_49 [_, _, _, _, _, _, _, _, _, _, _, _, _, _, _, _, _, _, M_46] Z := hS'
           refine wpList_nil <| x_then_n ⟨(hS.sub (.cons mr (.rr (.rr (.zz (.rr (.rr (.rr (.rr (.rr (.rr (.rr (.rr (.rr (.rr (.rr (.rr (.rr (.rr .nn))))))))))))))))))), ?_⟩
           refine h_event 4 (bA 11 511) rfl (by kernel_rfl) (by kernel_rfl) ?_
           obtain ⟨t_29, et_29, H⟩ := bs H
           refine s_append (J := N_49) (I' := N_49) (p := 18) 2932031007402 h rfl rfl rfl U50 ti53 rfl rfl rfl rfl hS rfl ho_29 (hr_56.src (mr.trans (hS.own 0))) mr mr et_29 fun w_50 v_85 M_47 hS' ho_30 a h => ?_
           replace hS : Sep w0 w_50 [_, _, _, _, _, _, _, _, _, _, _, _, _, _, _, _, _, _, M_47] Z := hS'
           refine wpList_nil <| x_then_n ⟨(hS.sub (.cons mr (.rr (.rr (.zz (.rr (.rr (.rr (.rr (.rr (.rr (.rr (.rr (.rr (.rr (.rr (.rr (.rr (.rr .nn))))))))))))))))))), ?_⟩
           refine h_event 9 (bA 11 1023) rfl (by kernel_rfl) (by kernel_rfl) ?_
           obtain ⟨t_30, et_30, H⟩ := bs H
           refine s_append (J := N_49) (I' := N_49) (p := 18) 2932031007402 h rfl rfl rfl U50 ti53 rfl rfl rfl rfl hS rfl ho_30 (hr_57.src (mr.trans (hS.own 0))) mr mr et_30 fun w_51 v_86 M_48 hS' ho_31 a h => ?_
           replace hS : Sep w0 w_51 [_, _, _, _, _, _, _, _, _, _, _, _, _, _, _, _, _, _, M_48] Z := hS'
           refine wpList_nil <| x_then_n ⟨(hS.sub (.cons mr (.rr (.rr (.zz (.rr (.rr (.rr (.rr (.rr (.rr (.rr (.rr (.rr (.rr (.rr (.rr (.rr (.rr .nn))))))))))))))))))), ?_⟩
           refine t_take 10 (bA 11 2047) rfl rfl rfl rfl h (hS.sub (.cons mr (.rr (.rr (.zz (.rr (.rr (.rr (.rr (.rr (.rr (.rr (.rr (.rr (.rr (.rr (.rr (.rr (.rr .nn))))))))))))))))))) (v := v_86) (fun w hS => r_assign h rfl) fun a h=>h_done (by kernel_rfl) ?_
           exact x_then_n (hJ_j_13 t_30 x_22 x_23 H _ _ ⟨v_86, v_76, v_77, v_78, v_79, v_80, v_81, N_49, M_48, M_40, M_41, M_42, M_43, M_44, M_45, (h.keep [0, 1, 2, 6, 7, 8, 9, 10, 11, 15, 16, 17, 18]), (hS.sel [0, 1, 2, 1002, 4, 5, 6, 7, 8, 9, 10, 11, 18, 12, 13, 14, 15, 16, 17] (by decide)), (le_35.trans (le_36.trans le_37)), (ho_31.mono mr), ho_23, ho_24, ho_25, ho_26, ho_27, ho_28⟩)
          clear hKJ_22
          obtain ⟨hc_35, H⟩ | ⟨hc_35, H⟩ := ii H
          ·refine c_cond_t h rfl hc_35 <| wp_region_lit <| mv h rfl fun a h=>mv h rfl fun a h=>?_
           obtain ⟨t_31, et_31, H⟩ := bs H
           refine v_indexO h rfl U50 ti53 rfl rfl rfl ho_1 (hS.own 3) et_31 fun ad_13 cs_13 hk_13 hc_36 => ?_
           obtain ⟨v_87, rfl, hr_58⟩ := k_hocketlaw23_flight.open' hk_13
           intro a h
           refine s_fieldAddr h rfl U53 rfl ti26 rfl rfl fun a h=>s_load h rfl rfl (el_one (o := 2) hc_36 U26 rfl rfl) fun a h=>?_
           obtain ⟨t_32, et_32, H⟩ := bs H
           refine s_call h rfl Try.call23 rfl (hocketref11_Open.calls K t_31.b _ t_32 w0 _ _ _ mr (hS.enter [] (by decide)) (hr_58.mono ((le_5.trans (le_6.trans (le_14.trans (le_31.trans (le_32.trans le_35))))).trans (hS.new_zed []))) et_32) ?_
           rintro _ w_52 ⟨v_88, v_89, v_90, v_91, v_92, v_93, N_50, M_49, M_50, M_51, M_52, M_53, M_54, rfl, hS', hr_59, hr_60, hr_61, hr_62, hr_63, hr_64⟩
           intro a h
           obtain ⟨N_51, hS'', le_38, ln_13⟩ := hS.call [] (by decide) rfl (l' := []) (ow := [_, _, _, _, _, _]) rfl hS'
           replace hS : Sep w0 w_52 [N_51, _, _, _, _, _, _, _, _, _, _, _, _, _, _, _, _, _] Z := hS''
           refine mv h rfl fun a h=>s_extract h rfl rfl rfl fun a h=>s_extract h rfl rfl rfl fun a h=>?_
           refine sto 11 h rfl rfl hS rfl ti32 rfl rfl rfl (oa 11 rfl (oc hr_59.one (oa 2 rfl (oc hr_60.one (oc hr_61.one (oa 5 rfl (oc hr_62.one (oc hr_63.one (oc hr_64.one on0))))))))) fun w_53 hS' => ?_
           replace hS : Sep w0 w_53 [_, _, _, _, _, _, _, _, _, _, _, bx g_9 32 (E32 t_32.1 v_88 v_89 v_90 v_91 v_92 v_93), _, _, _, _, _, _] Z := hS'
           refine sg h rfl fun a h=>wpList_nil ?_
           exact x_then_n (hJ_j_15 t_32.2 t_32.1 H _ _ ⟨v_88, v_89, v_90, v_91, v_92, v_93, N_51, M_49, M_50, M_51, M_52, M_53, M_54, (h.keep [0, 1, 2, 6, 7, 8, 9, 10, 11, 15, 16, 17, 18]), (hS.sel [0, 1, 2, 3, 4, 5, 6, 7, 8, 9, 10, 11, 12, 13, 14, 15, 16, 17] (by decide)), le_38, hr_59, hr_60, hr_61, hr_62, hr_63, hr_64⟩)
          ·refine c_cond_f h rfl (ef hc_35) <| wp_skip ?_
           have hS' := hS.room
           replace hS : Sep w0 w_46 [_, _, _, _, _, _, _, _, _, _, _, _, Mem.no] Z := hS'
           have hS' := hS.room
           replace hS : Sep w0 w_46 [_, _, _, _, _, _, _, _, _, _, _, _, _, Mem.no] Z := hS'
           have hS' := hS.room
           replace hS : Sep w0 w_46 [_, _, _, _, _, _, _, _, _, _, _, _, _, _, Mem.no] Z := hS'
           have hS' := hS.room
           replace hS : Sep w0 w_46 [_, _, _, _, _, _, _, _, _, _, _, _, _, _, _, Mem.no] Z := hS'
           have hS' := hS.room
           replace hS : Sep w0 w_46 [_, _, _, _, _, _, _, _, _, _, _, _, _, _, _, _, Mem.no] Z := hS'
           have hS' := hS.room
           replace hS : Sep w0 w_46 [_, _, _, _, _, _, _, _, _, _, _, _, _, _, _, _, _, Mem.no] Z := hS'
           exact x_then_n (hJ_j_15 false (⟨0, 0, 0, 0, 0, 0, false, 0, 0, 0, 0, ([] : List UInt8), 0, 0, ([] : List Int), ([] : List Int), 0, (⟨0, 0, (⟨0, 0, ([] : List UInt8), ([] : List UInt8), ([] : List UInt8)⟩ : api_Cmd)⟩ : api_Entry)⟩ : api_Msg) H _ _ ⟨nS, nS, nS, nS, nS, nS, N_47, Mem.no, Mem.no, Mem.no, Mem.no, Mem.no, Mem.no, (h.keep [0, 1, 2, 6, 7, 8, 9, 10, 11, 15, 16, 17, 18]), (hS.sel [0, 1, 2, 3, 4, 5, 6, 7, 8, 9, 10, 11, 12, 13, 14, 15, 16, 17] (by decide)), mr, (Own.nil Kd.u8 5 Mem.no), (Own.nil (Kd.int .i64) 3 Mem.no), (Own.nil (Kd.int .i64) 3 Mem.no), (Own.nil Kd.u8 5 Mem.no), (Own.nil Kd.u8 5 Mem.no), (Own.nil Kd.u8 5 Mem.no)⟩)
         clear hKJ_23
         refine h_begin (S := fun w => Sep w0 w [N_43, bx g_1 58 [iV t_25.2.2.1, iV t_25.2.2.2.1, v_68], M_32, M_2, M_26, M_27, M_28, M_29, M_30, M_31, bx g_8 32 (E32 t_25.1 v_62 v_63 v_64 v_65 v_66 v_67), bx g_9 32 Q0] Z) 23 (by kernel_rfl) rfl (bA 23 0) (by kernel_rfl) hS fun w_54 hS => ?_
         refine t_take 0 (bA 23 1) rfl rfl rfl rfl h (hS.sub .ii) (v := iV x_2) (fun w hS => r_move h rfl) fun a h=>t_take 1 (bA 23 3) rfl rfl rfl rfl h (hS.sub .ii) (v := v_2) (fun w hS => r_move h rfl) fun a h=>t_take 2 (bA 23 7) rfl rfl rfl rfl h (hS.sub .ii) (v := iV (w64 ((band .i64 (shr .i64 t_3 4) 15) - 1))) (fun w hS => r_move h rfl) fun a h=>?_
         obtain ⟨t_33, et_33, H⟩ := bs H
         refine t_takeE 3 (bA 23 15) rfl rfl rfl rfl h (hS.sub .ii) (f := fun ad => .pointer (some ad)) (r_indexO h U50 ti53 rfl rfl rfl ho_1 et_33) ?_
         rintro ad_14 ⟨cs_14, hk_14, hc_37⟩
         obtain ⟨v_94, rfl, hr_65⟩ := k_hocketlaw23_flight.open' hk_14
         intro a h
         refine t_take 4 (bA 23 31) rfl rfl rfl rfl h (hS.sub .ii) (v := .pointer (some (ad_14.add 0))) (fun w hS => r_fieldAddr h U53 rfl ti3 rfl rfl rfl) fun a h=>t_take 5 (bA 23 63) rfl rfl rfl rfl h (hS.sub .ii) (v := iV t_33.from_) (fun w hS => r_load h rfl (el_one (o := 0) (fun j c h => Mem.cell_le (hS.own 3) (hc_37 j c h)) U3 rfl rfl)) fun a h=>t_take 6 (bA 23 127) rfl rfl rfl rfl h (hS.sub .ii) (v := .int .u64 (wu64 t_33.from_)) (fun w hS => r_conv (wu64 t_33.from_) h U3 U48 rfl rfl) fun a h=>t_take 7 (bA 23 255) rfl rfl rfl rfl h (hS.sub .ii) (v := iV (shr .i64 x_2 (wu64 t_33.from_))) (fun w hS => r_shift (r := shr .i64 x_2 (wu64 t_33.from_)) h rfl rfl (wu64_nn _) (.inr ⟨rfl, rfl⟩)) fun a h=>t_take 8 (bA 23 511) rfl rfl rfl rfl h (hS.sub .ii) (v := iV (band .i64 (shr .i64 x_2 (wu64 t_33.from_)) 1)) (fun w hS => r_bits (i := shr .i64 x_2 (wu64 t_33.from_)) (j := 1) (r := band .i64 (shr .i64 x_2 (wu64 t_33.from_)) 1) h rfl rfl (.inl ⟨rfl, rfl⟩)) fun a h=>t_take 9 (bA 23 1023) rfl rfl rfl rfl h (hS.sub .ii) (v := iV x_2) (fun w hS => r_move h rfl) fun a h=>?_
         refine t_take 10 (bA 23 2047) rfl rfl rfl rfl h (hS.sub .ii) (v := v_2) (fun w hS => r_move h rfl) fun a h=>t_take 11 (bA 23 4095) rfl rfl rfl rfl h (hS.sub .ii) (v := iV (w64 ((band .i64 (shr .i64 t_3 4) 15) - 1))) (fun w hS => r_move h rfl) fun a h=>?_
         obtain ⟨t_34, et_34, H⟩ := bs H
         refine t_takeE 12 (bA 23 8191) rfl rfl rfl rfl h (hS.sub .ii) (f := fun ad => .pointer (some ad)) (r_indexO h U50 ti53 rfl rfl rfl ho_1 et_34) ?_
         rintro ad_15 ⟨cs_15, hk_15, hc_38⟩
         obtain ⟨v_95, rfl, hr_66⟩ := k_hocketlaw23_flight.open' hk_15
         intro a h
         refine t_take 13 (bA 23 16383) rfl rfl rfl rfl h (hS.sub .ii) (v := .pointer (some (ad_15.add 1))) (fun w hS => r_fieldAddr h U53 rfl ti3 rfl rfl rfl) fun a h=>t_take 14 (bA 23 32767) rfl rfl rfl rfl h (hS.sub .ii) (v := iV t_34.to) (fun w hS => r_load h rfl (el_one (o := 1) (fun j c h => Mem.cell_le (hS.own 3) (hc_38 j c h)) U3 rfl rfl)) fun a h=>t_take 15 (bA 23 65535) rfl rfl rfl rfl h (hS.sub .ii) (v := .int .u64 (wu64 t_34.to)) (fun w hS => r_conv (wu64 t_34.to) h U3 U48 rfl rfl) fun a h=>t_take 16 (bA 23 131071) rfl rfl rfl rfl h (hS.sub .ii) (v := iV (shr .i64 x_2 (wu64 t_34.to))) (fun w hS => r_shift (r := shr .i64 x_2 (wu64 t_34.to)) h rfl rfl (wu64_nn _) (.inr ⟨rfl, rfl⟩)) fun a h=>t_take 17 (bA 23 262143) rfl rfl rfl rfl h (hS.sub .ii) (v := iV (band .i64 (shr .i64 x_2 (wu64 t_34.to)) 1)) (fun w hS => r_bits (i := shr .i64 x_2 (wu64 t_34.to)) (j := 1) (r := band .i64 (shr .i64 x_2 (wu64 t_34.to)) 1) h rfl rfl (.inl ⟨rfl, rfl⟩)) fun a h=>t_take 18 (bA 23 524287) rfl rfl rfl rfl h (hS.sub .ii) (v := .bool ((band .i64 (shr .i64 x_2 (wu64 t_33.from_)) 1) == (band .i64 (shr .i64 x_2 (wu64 t_34.to)) 1))) (fun w hS => r_cmp (b := ((band .i64 (shr .i64 x_2 (wu64 t_33.from_)) 1) == (band .i64 (shr .i64 x_2 (wu64 t_34.to)) 1))) h rfl rfl (.inl ⟨rfl, rfl⟩)) fun a h=>?_
         refine t_take 19 (bA 23 1048575) rfl rfl rfl rfl h (hS.sub .ii) (v := .bool ((band .i64 (shr .i64 x_2 (wu64 t_33.from_)) 1) == (band .i64 (shr .i64 x_2 (wu64 t_34.to)) 1))) (fun w hS => r_move h rfl) fun a h=>?_
         obtain ⟨hc_39, H⟩ | ⟨hc_39, H⟩ := ii H
         ·refine t_take_off 20 (bA 23 2097151) rfl rfl rfl rfl (.inl (congrArg Value.bool (bt hc_39))) rfl rfl h (hS.sub .ii) fun a h=>t_take_off 21 (bA 23 4194303) rfl rfl rfl rfl (.inl (congrArg Value.bool (bt hc_39))) rfl rfl h (hS.sub .ii) fun a h=>t_take 22 (bA 23 8388607) rfl rfl rfl rfl h (hS.sub .ii) (v := .bool true) (fun w hS => r_pick_t h rfl (bt hc_39) rfl) fun a h=>h_done (by kernel_rfl) ?_
          exact x_then_n (hJ_j_14 true H _ _ ⟨N_43, (h.keep [0, 1, 2, 6, 7, 8, 9, 10, 11, 15, 16, 17, 18, 180]), (hS.sel [0, 1, 2, 3, 4, 5, 6, 7, 8, 9, 10, 11] (by decide)), mr⟩)
         ·refine t_take_on 20 (bA 23 2097151) rfl rfl rfl rfl (bf hc_39) rfl rfl h (hS.sub .ii) (v := iV x_2) (fun w hS => r_move h rfl) fun a h=>t_take_on 21 (bA 23 4194303) rfl rfl rfl rfl (bf hc_39) rfl rfl h (hS.sub .ii) (v := .bool (x_2 == 0)) (fun w hS => r_cmp (b := (x_2 == 0)) h rfl rfl (.inl ⟨rfl, rfl⟩)) fun a h=>t_take 22 (bA 23 8388607) rfl rfl rfl rfl h (hS.sub .ii) (v := .bool (x_2 == 0)) (fun w hS => r_pick_f h rfl (bf hc_39) rfl) fun a h=>h_done (by kernel_rfl) ?_
          exact x_then_n (hJ_j_14 (x_2 == 0) H _ _ ⟨N_43, (h.keep [0, 1, 2, 6, 7, 8, 9, 10, 11, 15, 16, 17, 18, 180]), (hS.sel [0, 1, 2, 3, 4, 5, 6, 7, 8, 9, 10, 11] (by decide)), mr⟩)
        ·refine c_cond_f h rfl (ef hc_34) <| wp_skip ?_
         have hS' := hS.room
         replace hS : Sep w0 w_43 [_, _, _, _, _, _, _, _, _, _, _, _, Mem.no] Z := hS'
         have hS' := hS.room
         replace hS : Sep w0 w_43 [_, _, _, _, _, _, _, _, _, _, _, _, _, Mem.no] Z := hS'
         have hS' := hS.room
         replace hS : Sep w0 w_43 [_, _, _, _, _, _, _, _, _, _, _, _, _, _, Mem.no] Z := hS'
         have hS' := hS.room
         replace hS : Sep w0 w_43 [_, _, _, _, _, _, _, _, _, _, _, _, _, _, _, Mem.no] Z := hS'
         have hS' := hS.room
         replace hS : Sep w0 w_43 [_, _, _, _, _, _, _, _, _, _, _, _, _, _, _, _, Mem.no] Z := hS'
         have hS' := hS.room
         replace hS : Sep w0 w_43 [_, _, _, _, _, _, _, _, _, _, _, _, _, _, _, _, _, Mem.no] Z := hS'
         exact x_then_n (hJ_j_13 x_1 false (⟨0, 0, 0, 0, 0, 0, false, 0, 0, 0, 0, ([] : List UInt8), 0, 0, ([] : List Int), ([] : List Int), 0, (⟨0, 0, (⟨0, 0, ([] : List UInt8), ([] : List UInt8), ([] : List UInt8)⟩ : api_Cmd)⟩ : api_Entry)⟩ : api_Msg) H _ _ ⟨v_2, nS, nS, nS, nS, nS, nS, N_43, M_2, Mem.no, Mem.no, Mem.no, Mem.no, Mem.no, Mem.no, (h.keep [0, 1, 2, 6, 7, 8, 9, 10, 11, 15, 16, 17, 18]), (hS.sel [0, 1, 2, 1002, 4, 5, 6, 7, 8, 9, 10, 11, 3, 12, 13, 14, 15, 16, 17] (by decide)), mr, (ho_1.mono (le_5.trans (le_6.trans (le_14.trans (le_31.trans le_32))))), (Own.nil Kd.u8 5 Mem.no), (Own.nil (Kd.int .i64) 3 Mem.no), (Own.nil (Kd.int .i64) 3 Mem.no), (Own.nil Kd.u8 5 Mem.no), (Own.nil Kd.u8 5 Mem.no), (Own.nil Kd.u8 5 Mem.no)⟩)
       ·refine c_cond_f h rfl (ef hc_31) <| qr <| s_cmp (b := ((band .i64 t_4 15) == 9)) h rfl rfl rfl (.inl ⟨rfl, rfl⟩) fun a h=>sg h rfl fun a h=>wpList_nil <| x_then_n ?_
        obtain ⟨hc_40, H⟩ | ⟨hc_40, H⟩ := ii H
        ·refine c_cond_t h rfl (bt hc_40) <| c_seq fun KJ_24 hKJ_24 => qr <| mv h rfl fun a h=>mv h rfl fun a h=>?_
         obtain ⟨t_35, et_35, H⟩ := bs H
         refine s_call h rfl Try.call24 rfl (nets_Net_Drop.calls _ x_4.n x_4.mask x_4.l _ _ (w64 ((band .i64 (shr .i64 t_3 4) 15) - 1)) t_35 w0 _ _ (A.un N_41) (Mem.un_le (hA.trans (hS.le_zed [0, 1])) (hS.new_zed [0, 1])) (hS.enter [0, 1] (by decide)) (ho_2.mono (Mem.un_left (le_5.trans (le_6.trans (le_14.trans le_31))))) et_35) ?_
         rintro _ w_55 ⟨v_96, N_52, M_55, rfl, hS', hr_67⟩
         intro a h
         obtain ⟨N_53, hS'', le_39, ln_14⟩ := hS.call [0, 1] (by decide) rfl (l' := [_, _]) (ow := []) rfl hS'
         replace hS : Sep w0 w_55 [N_53, _, _, _] Z := hS''
         have hr_68 : Own k_nets_frame 60 M_55 (A.un N_53) v_96 t_35.2.2.2 := hr_67.mono (Mem.un_le (Mem.un_left le_39) (ln_14.trans (hS.sndA hA)))
         refine mv h rfl fun a h=>s_beq (b := !(t_35.1 == x_6)) h rfl U4 rfl rfl (.inr ⟨rfl, rfl⟩) fun a h=>wpList_nil <| x_then_n ?_
         obtain ⟨hc_41, H⟩ | ⟨hc_41, H⟩ := ii H
         ·refine c_cond_f h rfl (nf (bt hc_41)) <| wp_skip <| x_then_n (hKJ_24 _ _ ?_)
          refine qr <| mv h rfl fun a h=>wpList_nil <| x_then_n ?_
          obtain ⟨hc_42, H⟩ | ⟨hc_42, H⟩ := ii H
          ·refine c_cond_t h rfl hc_42 ?_
           obtain ⟨N_54, hS', le_40, lo_6⟩ := hS.freeze 2 rfl
           replace hS : Sep w0 w_55 [N_54, _, _, Mem.no] Z := hS'
           refine h_begin (S := fun w => Sep w0 w [N_54, bx g_1 58 [iV t_35.2.1, iV t_35.2.2.1, v_96], M_55, Mem.no] Z) 11 (by kernel_rfl) rfl (bA 11 0) (by kernel_rfl) hS fun w_56 hS => ?_
           refine t_take 1 (bA 11 2) rfl rfl rfl rfl h (hS.sub (.cons mr (.rr (.rr (.zz .ii))))) (v := v_2) (fun w hS => r_move h rfl) fun a h=>t_take 2 (bA 11 6) rfl rfl rfl rfl h (hS.sub (.cons mr (.rr (.rr (.zz .ii))))) (v := iV (w64 ((band .i64 (shr .i64 t_3 4) 15) - 1))) (fun w hS => r_move h rfl) fun a h=>?_
           obtain ⟨t_36, et_36, H⟩ := bs H
           refine t_takeE 3 (bA 11 14) rfl rfl rfl rfl h (hS.sub (.cons mr (.rr (.rr (.zz .ii))))) (f := fun v => v) (r_slice h U50 ti53 rfl rfl (ho_1.rd lo_6 (le_5.trans (le_6.trans (le_14.trans (le_31.trans (le_39.trans le_40)))))) rfl rfl et_36) fun v_97 hr_69 a h => t_take 5 (bA 11 46) rfl rfl rfl rfl h (hS.sub (.cons mr (.rr (.rr (.zz .ii))))) (v := v_2) (fun w hS => r_move h rfl) fun a h=>t_take 6 (bA 11 110) rfl rfl rfl rfl h (hS.sub (.cons mr (.rr (.rr (.zz .ii))))) (v := iV (w64 ((band .i64 (shr .i64 t_3 4) 15) - 1))) (fun w hS => r_move h rfl) fun a h=>t_take 7 (bA 11 238) rfl rfl rfl rfl h (hS.sub (.cons mr (.rr (.rr (.zz .ii))))) (v := iV (w64 ((w64 ((band .i64 (shr .i64 t_3 4) 15) - 1)) + 1))) (fun w hS => r_arith (r := w64 ((w64 ((band .i64 (shr .i64 t_3 4) 15) - 1)) + 1)) h rfl rfl (.inl ⟨rfl, rfl⟩)) fun a h=>?_
           obtain ⟨t_37, et_37, H⟩ := bs H
           refine t_takeE 8 (bA 11 494) rfl rfl rfl rfl h (hS.sub (.cons mr (.rr (.rr (.zz .ii))))) (f := fun v => v) (r_slice h U50 ti53 rfl rfl (ho_1.rd lo_6 (le_5.trans (le_6.trans (le_14.trans (le_31.trans (le_39.trans le_40)))))) rfl rfl et_37) fun v_98 hr_70 a h => h_event 0 (bA 11 495) rfl (by kernel_rfl) (by kernel_rfl) ?_
           have hq_3 : Reps k_hocketlaw23_flight N_54 ([] : List hocketlaw23_flight) _ := (Reps.nil k_hocketlaw23_flight _)
           refine s_buildSlice h rfl U50 ti53 rfl rfl rfl .nil rfl rfl rfl hS hq_3 rfl fun w_57 v_99 M_56 hS' ho_32 a h => ?_
           replace hS : Sep w0 w_57 [_, _, _, _, M_56] Z := hS'
           refine wpList_nil <| x_then_n ⟨(hS.sub (.cons mr (.rr (.rr (.zz .nn))))), ?_⟩
           refine h_event 4 (bA 11 511) rfl (by kernel_rfl) (by kernel_rfl) ?_
           obtain ⟨t_38, et_38, H⟩ := bs H
           refine s_append (J := N_54) (I' := N_54) (p := 4) 2932031007402 h rfl rfl rfl U50 ti53 rfl rfl rfl rfl hS rfl ho_32 (hr_69.src (mr.trans (hS.own 0))) mr mr et_38 fun w_58 v_100 M_57 hS' ho_33 a h => ?_
           replace hS : Sep w0 w_58 [_, _, _, _, M_57] Z := hS'
           refine wpList_nil <| x_then_n ⟨(hS.sub (.cons mr (.rr (.rr (.zz .nn))))), ?_⟩
           refine h_event 9 (bA 11 1023) rfl (by kernel_rfl) (by kernel_rfl) ?_
           obtain ⟨t_39, et_39, H⟩ := bs H
           refine s_append (J := N_54) (I' := N_54) (p := 4) 2932031007402 h rfl rfl rfl U50 ti53 rfl rfl rfl rfl hS rfl ho_33 (hr_70.src (mr.trans (hS.own 0))) mr mr et_39 fun w_59 v_101 M_58 hS' ho_34 a h => ?_
           replace hS : Sep w0 w_59 [_, _, _, _, M_58] Z := hS'
           refine wpList_nil <| x_then_n ⟨(hS.sub (.cons mr (.rr (.rr (.zz .nn))))), ?_⟩
           refine t_take 10 (bA 11 2047) rfl rfl rfl rfl h (hS.sub (.cons mr (.rr (.rr (.zz .nn))))) (v := v_101) (fun w hS => r_assign h rfl) fun a h=>h_done (by kernel_rfl) ?_
           replace h : Fr 404 a [(0, _), (1, _), (2, _), (6, _), (7, _), (8, v_101), (9, _), (10, _), (11, _)] := h.keep [0, 1, 2, 6, 7, 8, 9, 10, 11]
           refine x_block_n ?_
           exact x_then_n (hJ_j_4 t_39 x_2 (⟨t_35.2.1, t_35.2.2.1, t_35.2.2.2⟩ : nets_Net) H _ _ ⟨v_101, v_96, N_54, M_58, M_55, (h.keep [0, 1, 2, 6, 7, 8, 9, 10, 11]), (hS.sel [0, 1, 2, 1002, 4] (by decide)), (le_14.trans (le_31.trans (le_39.trans le_40))), (ho_34.mono mr), (hr_68.mono (Mem.un_left le_40))⟩)
          ·refine c_cond_f h rfl (ef hc_42) <| wp_skip <| x_block_n ?_
           exact x_then_n (hJ_j_4 x_1 x_2 (⟨t_35.2.1, t_35.2.2.1, t_35.2.2.2⟩ : nets_Net) H _ _ ⟨v_2, v_96, N_53, M_2, M_55, (h.keep [0, 1, 2, 6, 7, 8, 9, 10, 11]), (hS.sel [0, 1, 2, 1002, 3] (by decide)), (le_14.trans (le_31.trans le_39)), (ho_1.mono (le_5.trans (le_6.trans (le_14.trans (le_31.trans le_39))))), (hr_68.mono (Mem.un_left mr))⟩)
         ·cases H
        ·refine c_cond_f h rfl (bf hc_40) <| c_seq fun KJ_25 hKJ_25 => qr <| s_cmp (b := ((band .i64 t_4 15) == 10)) h rfl rfl rfl (.inl ⟨rfl, rfl⟩) fun a h=>sg h rfl fun a h=>wpList_nil <| x_then_n ?_
         have hJ_j_16 : ∀ (x_24 : Bool), hocketlaw23_NetsPlays.J16 K x_4 t_3 x_6 x_1 x1 x_3 x0 (hocketlaw23_NetsPlays.L1 K x1 x2 x0 (fun v => hocketlaw23_NetsPlays.J1 K) k_1) x_2 t_4 x_24 = some r → ∀ (a : Act) (w_60 : World), (∃ (N_55 : Mem), Fr 404 a [(0, iV (mx (w64 ((band .i64 x0 7) + 0)) 1)), (1, p1_0), (2, p2_1), (6, .bool false), (7, .pointer (some ⟨g_1, 0, none⟩)), (8, v_2), (9, iV x_2), (10, iV x_3), (11, iV (w64 ((band .i64 (shr .i64 t_3 4) 15) - 1))), (12, .bool x_6), (64, iV (band .i64 t_4 15)), (227, .bool x_24)] ∧ Sep w0 w_60 [N_55, bx g_1 58 (E58 x_4 v_3), M_3, M_2] Z ∧ N_41.le N_55) → KJ_25 a w_60 := by
          clear H h hS a
          rintro x_24 H a w_60 ⟨N_55, h, hS, le_41⟩
          unfold hocketlaw23_NetsPlays.J16 at H
          refine hKJ_25 _ _ ?_
          obtain ⟨hc_43, H⟩ | ⟨hc_43, H⟩ := ii H
          ·refine c_cond_t h rfl hc_43 <| c_seq fun KJ_26 hKJ_26 => qr <| mv h rfl fun a h=>mv h rfl fun a h=>?_
           obtain ⟨t_40, et_40, H⟩ := bs H
           refine s_call h rfl Try.call15 rfl (nets_Net_Twice.calls _ x_4.n x_4.mask x_4.l _ _ (w64 ((band .i64 (shr .i64 t_3 4) 15) - 1)) t_40 w0 _ _ (A.un N_55) (Mem.un_le (hA.trans (hS.le_zed [0, 1])) (hS.new_zed [0, 1])) (hS.enter [0, 1] (by decide)) (ho_2.mono (Mem.un_left (le_5.trans (le_6.trans (le_14.trans (le_31.trans le_41)))))) et_40) ?_
           rintro _ w_61 ⟨v_102, N_56, M_59, rfl, hS', hr_71⟩
           intro a h
           obtain ⟨N_57, hS'', le_42, ln_15⟩ := hS.call [0, 1] (by decide) rfl (l' := [_, _]) (ow := []) rfl hS'
           replace hS : Sep w0 w_61 [N_57, _, _, _] Z := hS''
           have hr_72 : Own k_nets_frame 60 M_59 (A.un N_57) v_102 t_40.2.2.2 := hr_71.mono (Mem.un_le (Mem.un_left le_42) (ln_15.trans (hS.sndA hA)))
           refine mv h rfl fun a h=>s_beq (b := !(t_40.1 == x_6)) h rfl U4 rfl rfl (.inr ⟨rfl, rfl⟩) fun a h=>wpList_nil <| x_then_n ?_
           obtain ⟨hc_44, H⟩ | ⟨hc_44, H⟩ := ii H
           ·refine c_cond_f h rfl (nf (bt hc_44)) <| wp_skip <| x_then_n (hKJ_26 _ _ ?_)
            refine qr <| mv h rfl fun a h=>wpList_nil ?_
            replace h : Fr 404 a [(0, _), (1, _), (2, _), (6, _), (7, _), (8, _), (9, _), (10, _), (11, _), (235, .bool x_6)] := h.keep [0, 1, 2, 6, 7, 8, 9, 10, 11, 235]
            refine x_then_n ?_
            obtain ⟨hc_45, H⟩ | ⟨hc_45, H⟩ := ii H
            ·refine c_cond_t h rfl hc_45 <| wp_region_lit <| mv h rfl fun a h=>mv h rfl fun a h=>mv h rfl fun a h=>?_
             obtain ⟨t_41, et_41, H⟩ := bs H
             refine v_indexO h rfl U50 ti53 rfl rfl rfl ho_1 (hS.own 3) et_41 fun ad_16 cs_16 hk_16 hc_46 => ?_
             obtain ⟨v_103, rfl, hr_73⟩ := k_hocketlaw23_flight.open' hk_16
             intro a h
             refine s_load h rfl rfl (el_agg (o := 0) (us := (E53 t_41 v_103)) hc_46 U53 rfl ti53 rfl rfl) fun a h=>?_
             have hq_4 : Reps k_hocketlaw23_flight N_57 ([t_41] : List hocketlaw23_flight) _ := ((Reps.one (d := k_hocketlaw23_flight) (x := t_41) (k_hocketlaw23_flight.mk' (hr_73.mono (le_5.trans (le_6.trans (le_14.trans (le_31.trans (le_41.trans le_42)))))))).append (Reps.nil k_hocketlaw23_flight _))
             refine s_buildSlice h rfl U50 ti53 rfl rfl rfl (.cons rfl .nil) rfl rfl rfl hS hq_4 rfl fun w_62 v_104 M_60 hS' ho_35 a h => ?_
             replace hS : Sep w0 w_62 [_, _, _, _, M_60] Z := hS'
             obtain ⟨t_42, et_42, H⟩ := bs H
             refine s_append (J := N_57) (I' := N_57) (p := 3) 2932031007402 h rfl rfl rfl U50 ti53 rfl rfl rfl rfl hS rfl ho_1 (ho_35.src (hS.own 4)) (le_5.trans (le_6.trans (le_14.trans (le_31.trans (le_41.trans le_42))))) mr et_42 fun w_63 v_105 M_61 hS' ho_36 a h => ?_
             replace hS : Sep w0 w_63 [_, _, _, M_61, _] Z := hS'
             refine sg h rfl fun a h=>wpList_nil <| x_block_n ?_
             exact x_then_n (hJ_j_4 t_42 x_2 (⟨t_40.2.1, t_40.2.2.1, t_40.2.2.2⟩ : nets_Net) H _ _ ⟨v_105, v_102, N_57, M_61, M_59, (h.keep [0, 1, 2, 6, 7, 8, 9, 10, 11]), (hS.sel [0, 1, 2, 1002, 3] (by decide)), (le_14.trans (le_31.trans (le_41.trans le_42))), (ho_36.mono mr), (hr_72.mono (Mem.un_left mr))⟩)
            ·refine c_cond_f h rfl (ef hc_45) <| wp_skip <| x_block_n ?_
             exact x_then_n (hJ_j_4 x_1 x_2 (⟨t_40.2.1, t_40.2.2.1, t_40.2.2.2⟩ : nets_Net) H _ _ ⟨v_2, v_102, N_57, M_2, M_59, (h.keep [0, 1, 2, 6, 7, 8, 9, 10, 11]), (hS.sel [0, 1, 2, 1002, 3] (by decide)), (le_14.trans (le_31.trans (le_41.trans le_42))), (ho_1.mono (le_5.trans (le_6.trans (le_14.trans (le_31.trans (le_41.trans le_42)))))), (hr_72.mono (Mem.un_left mr))⟩)
           ·cases H
          ·refine c_cond_f h rfl (ef hc_43) <| c_seq fun KJ_27 hKJ_27 => qr <| s_cmp (b := ((band .i64 t_4 15) == 12)) h rfl rfl rfl (.inl ⟨rfl, rfl⟩) fun a h=>sg h rfl fun a h=>wpList_nil <| x_then_n ?_
           have hJ_j_17 : ∀ (x_25 : Bool), hocketlaw23_NetsPlays.J17 K x1 x_3 x_6 x_1 t_3 x_4 x0 (hocketlaw23_NetsPlays.L1 K x1 x2 x0 (fun v => hocketlaw23_NetsPlays.J1 K) k_1) x_2 x_25 = some r → ∀ (a : Act) (w_64 : World), (∃ (N_58 : Mem), Fr 404 a [(0, iV (mx (w64 ((band .i64 x0 7) + 0)) 1)), (1, p1_0), (2, p2_1), (6, .bool false), (7, .pointer (some ⟨g_1, 0, none⟩)), (8, v_2), (9, iV x_2), (10, iV x_3), (11, iV (w64 ((band .i64 (shr .i64 t_3 4) 15) - 1))), (12, .bool x_6), (243, .bool x_25)] ∧ Sep w0 w_64 [N_58, bx g_1 58 (E58 x_4 v_3), M_3, M_2] Z ∧ N_55.le N_58) → KJ_27 a w_64 := by
            clear H h hS a
            rintro x_25 H a w_64 ⟨N_58, h, hS, le_43⟩
            unfold hocketlaw23_NetsPlays.J17 at H
            refine hKJ_27 _ _ ?_
            obtain ⟨hc_47, H⟩ | ⟨hc_47, H⟩ := ii H
            ·refine c_cond_t h rfl hc_47 <| qr <| mv h rfl fun a h=>mv h rfl fun a h=>?_
             obtain ⟨t_43, et_43, H⟩ := bs H
             refine v_index h rfl U22 ti3 rfl rfl rfl hp1_0 (hA.trans hS.old) et_43 fun ad_17 cs_17 hk_17 hc_48 => ?_
             obtain rfl := (show cs_17 = [iV t_43] from hk_17)
             intro a h
             refine s_load h rfl rfl (el_one (o := 0) hc_48 U3 rfl rfl) fun a h=>s_shift (r := shr .i64 t_43 8) h rfl rfl rfl (by decide) (.inr ⟨rfl, rfl⟩) fun a h=>s_bits (i := shr .i64 t_43 8) (j := 1023) (r := band .i64 (shr .i64 t_43 8) 1023) h rfl rfl rfl (.inl ⟨rfl, rfl⟩) fun a h=>s_arith (r := w64 ((band .i64 (shr .i64 t_43 8) 1023) - 10)) h rfl rfl rfl (.inr (.inl ⟨rfl, rfl⟩)) fun a h=>sg h rfl fun a h=>wpList_nil ?_
             replace h : Fr 404 a [(0, _), (1, _), (2, _), (6, _), (7, _), (8, _), (9, _), (10, _), (11, _), (12, _), (19, iV (w64 ((band .i64 (shr .i64 t_43 8) 1023) - 10)))] := h.keep [0, 1, 2, 6, 7, 8, 9, 10, 11, 12, 19]
             refine x_then_n <| c_seq fun KJ_28 hKJ_28 => ?_
             have hJ_j_18 : ∀ (x_26 : Bool), hocketlaw23_NetsPlays.J18 K x_4 t_3 t_43 x_1 x1 x_3 x0 (hocketlaw23_NetsPlays.L1 K x1 x2 x0 (fun v => hocketlaw23_NetsPlays.J1 K) k_1) x_2 x_26 = some r → ∀ (a : Act) (w_65 : World), (∃ (N_59 : Mem), Fr 404 a [(0, iV (mx (w64 ((band .i64 x0 7) + 0)) 1)), (1, p1_0), (2, p2_1), (6, .bool false), (7, .pointer (some ⟨g_1, 0, none⟩)), (8, v_2), (9, iV x_2), (10, iV x_3), (11, iV (w64 ((band .i64 (shr .i64 t_3 4) 15) - 1))), (19, iV (w64 ((band .i64 (shr .i64 t_43 8) 1023) - 10))), (20, .bool x_26)] ∧ Sep w0 w_65 [N_59, bx g_1 58 (E58 x_4 v_3), M_3, M_2] Z ∧ N_58.le N_59) → KJ_28 a w_65 := by
              clear H h hS a
              rintro x_26 H a w_65 ⟨N_59, h, hS, le_44⟩
              unfold hocketlaw23_NetsPlays.J18 at H
              refine hKJ_28 _ _ <| c_seq fun KJ_29 hKJ_29 => qr <| mv h rfl fun a h=>mv h rfl fun a h=>mv h rfl fun a h=>?_
              obtain ⟨t_44, et_44, H⟩ := bs H
              refine s_call h rfl Try.call16 rfl (nets_Net_Flip.calls _ x_4.n x_4.mask x_4.l _ _ (w64 ((band .i64 (shr .i64 t_3 4) 15) - 1)) (w64 ((band .i64 (shr .i64 t_43 8) 1023) - 10)) t_44 w0 _ _ (A.un N_59) (Mem.un_le (hA.trans (hS.le_zed [0, 1])) (hS.new_zed [0, 1])) (hS.enter [0, 1] (by decide)) (ho_2.mono (Mem.un_left (le_5.trans (le_6.trans (le_14.trans (le_31.trans (le_41.trans (le_43.trans le_44)))))))) et_44) ?_
              rintro _ w_66 ⟨v_106, N_60, M_62, rfl, hS', hr_74⟩
              intro a h
              obtain ⟨N_61, hS'', le_45, ln_16⟩ := hS.call [0, 1] (by decide) rfl (l' := [_, _]) (ow := []) rfl hS'
              replace hS : Sep w0 w_66 [N_61, _, _, _] Z := hS''
              have hr_75 : Own k_nets_frame 60 M_62 (A.un N_61) v_106 t_44.2.2.2 := hr_74.mono (Mem.un_le (Mem.un_left le_45) (ln_16.trans (hS.sndA hA)))
              refine mv h rfl fun a h=>s_beq (b := !(t_44.1 == x_26)) h rfl U4 rfl rfl (.inr ⟨rfl, rfl⟩) fun a h=>wpList_nil <| x_then_n ?_
              obtain ⟨hc_49, H⟩ | ⟨hc_49, H⟩ := ii H
              ·refine c_cond_f h rfl (nf (bt hc_49)) <| wp_skip <| x_then_n (hKJ_29 _ _ ?_)
               refine qr <| mv h rfl fun a h=>wpList_nil <| x_then_n ?_
               obtain ⟨hc_50, H⟩ | ⟨hc_50, H⟩ := ii H
               ·refine c_cond_t h rfl hc_50 <| wp_seq <| wp_region_lit ?_
                have hq_5 : Reps Kd.u8 Mem.no ([] : List UInt8) _ := (Reps.nil Kd.u8 _)
                refine s_buildSlice h rfl U26 ti5 rfl rfl rfl .nil rfl rfl rfl hS hq_5 rfl fun w_67 v_107 M_63 hS' ho_37 a h => ?_
                replace hS : Sep w0 w_67 [_, _, _, _, M_63] Z := hS'
                refine mv h rfl fun a h=>mv h rfl fun a h=>?_
                obtain ⟨t_45, et_45, H⟩ := bs H
                refine v_indexO h rfl U50 ti53 rfl rfl rfl ho_1 (hS.own 3) et_45 fun ad_18 cs_18 hk_18 hc_51 => ?_
                obtain ⟨v_108, rfl, hr_76⟩ := k_hocketlaw23_flight.open' hk_18
                intro a h
                refine s_fieldAddr h rfl U53 rfl ti26 rfl rfl fun a h=>s_load h rfl rfl (el_one (o := 2) hc_51 U26 rfl rfl) fun a h=>?_
                obtain ⟨t_46, et_46, H⟩ := bs H
                refine s_append (J := Mem.no) (I' := Mem.no) (p := 4) 140737488355328 h rfl rfl rfl U26 ti5 rfl rfl rfl rfl hS rfl ho_37 (Src.flat flat_u8 (hr_76.src ((le_5.trans (le_6.trans (le_14.trans (le_31.trans (le_41.trans (le_43.trans (le_44.trans le_45))))))).trans (hS.own 0)))) mr mr et_46 fun w_68 v_109 M_64 hS' ho_38 a h => ?_
                replace hS : Sep w0 w_68 [_, _, _, _, M_64] Z := hS'
                refine sg h rfl fun a h=>nx <| qr <| mv h rfl fun a h=>mv h rfl fun a h=>s_lenO h rfl U26 rfl ho_38 fun a h=>s_arith (r := w64 (8 * (t_46.length : Int))) h rfl rfl rfl (.inr (.inr ⟨rfl, rfl⟩)) fun a h=>?_
                obtain ⟨t_47, et_47, H⟩ := bs H
                refine s_div (r := t_47) h rfl rfl rfl (rem_some et_47).1 (.inr ⟨rfl, (rem_some et_47).2⟩) fun a h=>sg h rfl fun a h=>wpList_nil ?_
                replace h : Fr 404 a [(0, _), (1, _), (2, _), (6, _), (7, _), (8, _), (9, _), (10, _), (11, _), (19, iV t_47), (21, v_109)] := h.keep [0, 1, 2, 6, 7, 8, 9, 10, 11, 19, 21]
                refine x_then_n <| qr <| mv h rfl fun a h=>mv h rfl fun a h=>s_div (r := w64 (Int.tdiv t_47 8)) h rfl rfl rfl (by decide) (.inl ⟨rfl, rfl⟩) fun a h=>mv h rfl fun a h=>mv h rfl fun a h=>s_div (r := w64 (Int.tdiv t_47 8)) h rfl rfl rfl (by decide) (.inl ⟨rfl, rfl⟩) fun a h=>?_
                obtain ⟨t_48, et_48, H⟩ := bs H
                refine v_indexO h rfl U26 ti5 rfl rfl rfl ho_38 (hS.own 4) et_48 fun ad_19 cs_19 hk_19 hc_52 => ?_
                obtain rfl := (show cs_19 = [.int .u8 (t_48.toNat : Int)] from hk_19)
                intro a h
                refine s_load h rfl rfl (el_one (o := 0) hc_52 U5 rfl rfl) fun a h=>mv h rfl fun a h=>s_bits (i := t_47) (j := 7) (r := band .i64 t_47 7) h rfl rfl rfl (.inl ⟨rfl, rfl⟩) fun a h=>s_conv (wu64 (band .i64 t_47 7)) h rfl U3 U48 rfl rfl fun a h=>s_shift (r := ((toU8 (((1 : UInt8).toNat : Int) * 2 ^ (min (wu64 (band .i64 t_47 7) : Int).toNat 8))).toNat : Int)) h rfl rfl rfl (wu64_nn _) (.inl ⟨rfl, (wrap_u8 _).symm⟩) fun a h=>s_bits (i := (t_48.toNat : Int)) (j := ((toU8 (((1 : UInt8).toNat : Int) * 2 ^ (min (wu64 (band .i64 t_47 7) : Int).toNat 8))).toNat : Int)) (r := ((t_48 ^^^ (toU8 (((1 : UInt8).toNat : Int) * 2 ^ (min (wu64 (band .i64 t_47 7) : Int).toNat 8)))).toNat : Int)) h rfl rfl rfl (.inr (.inr (.inl ⟨rfl, (bxor8 _ _).symm⟩))) fun a h=>?_
                obtain ⟨t_49, et_49, H⟩ := bs H
                refine s_indexOwn h rfl U26 ti5 rfl rfl rfl ho_38 et_49 fun g_10 cur_789 hM_1 a h => ?_
                obtain ⟨w_69, M_65, hs', hS', ho_39⟩ := Own.stored (P := Try.prog) (p := 4) (t := 5) (o := 0) (nv := .int .u8 ((t_48 ^^^ (toU8 (((1 : UInt8).toNat : Int) * 2 ^ (min (wu64 (band .i64 t_47 7) : Int).toNat 8)))).toNat : Int)) (vs := [.int .u8 ((t_48 ^^^ (toU8 (((1 : UInt8).toNat : Int) * 2 ^ (min (wu64 (band .i64 t_47 7) : Int).toNat 8)))).toNat : Int)]) (u' := t_48 ^^^ (toU8 (((1 : UInt8).toNat : Int) * 2 ^ (min (wu64 (band .i64 t_47 7) : Int).toNat 8)))) hS rfl ho_38 hM_1 et_49 ti5 rfl rfl rfl (oz rfl) (fun cs hk => by obtain rfl := (show cs = [_] from hk); rfl)
                refine s_store h rfl rfl hs' ?_
                replace hS : Sep w0 w_69 [_, _, _, _, M_65] Z := hS'
                refine nx <| wp_region_lit <| mv h rfl fun a h=>mv h rfl fun a h=>mv h rfl fun a h=>mv h rfl fun a h=>mv h rfl fun a h=>?_
                obtain ⟨t_50, et_50, H⟩ := bs H
                refine s_indexOwn h rfl U50 ti53 rfl rfl rfl ho_1 et_50 fun g_11 cur_796 hM_2 a h => s_fieldAddr h rfl U53 rfl ti26 rfl rfl fun a h=>?_
                obtain ⟨N_62, hS', le_46, lo_7⟩ := hS.freeze 3 rfl
                replace hS : Sep w0 w_69 [N_62, _, _, _, Mem.no] Z := hS'
                obtain ⟨w_70, M_66, hs', hS', ho_40⟩ := Own.stored (P := Try.prog) (p := 3) (t := 26) (o := 2) (nv := v_109) (vs := [v_109]) (u' := (⟨t_50.from_, t_50.to, (t_46.set ((w64 (Int.tdiv t_47 8))).toNat (t_48 ^^^ (toU8 (((1 : UInt8).toNat : Int) * 2 ^ (min (wu64 (band .i64 t_47 7) : Int).toNat 8))))), t_50.turned⟩ : hocketlaw23_flight)) hS rfl (ho_1.mono (le_5.trans (le_6.trans (le_14.trans (le_31.trans (le_41.trans (le_43.trans (le_44.trans (le_45.trans le_46))))))))) hM_2 et_50 ti26 (ho_39.rd lo_7 (Mem.no_le _)).cellsA rfl rfl (oc (ho_39.rd lo_7 (Mem.no_le _)).one on0) (by intro cs hk; obtain ⟨v_110, rfl, hr_77⟩ := k_hocketlaw23_flight.open' hk; exact k_hocketlaw23_flight.mk' (ho_39.rd lo_7 (Mem.no_le _)))
                refine s_store h rfl rfl hs' ?_
                replace hS : Sep w0 w_70 [_, _, _, M_66, _] Z := hS'
                obtain ⟨t_51, et_51, H⟩ := bs H
                refine s_indexOwn h rfl U50 ti53 rfl rfl rfl ho_40 et_51 fun g_12 cur_806 hM_3 a h => s_fieldAddr h rfl U53 rfl ti4 rfl rfl fun a h=>?_
                obtain ⟨w_71, M_67, hs', hS', ho_41⟩ := Own.stored (P := Try.prog) (p := 3) (t := 4) (o := 3) (nv := .bool true) (vs := [.bool true]) (u' := (⟨t_51.from_, t_51.to, t_51.b, true⟩ : hocketlaw23_flight)) hS rfl ho_40 hM_3 et_51 ti4 rfl rfl rfl (oz rfl) (by intro cs hk; obtain ⟨v_111, rfl, hr_78⟩ := k_hocketlaw23_flight.open' hk; exact k_hocketlaw23_flight.mk' hr_78)
                refine s_store h rfl rfl hs' ?_
                replace hS : Sep w0 w_71 [_, _, _, M_67, _] Z := hS'
                refine wpList_nil <| x_block_n ?_
                exact x_then_n (hJ_j_4 ((x_1.set ((w64 ((band .i64 (shr .i64 t_3 4) 15) - 1))).toNat (⟨t_50.from_, t_50.to, (t_46.set ((w64 (Int.tdiv t_47 8))).toNat (t_48 ^^^ (toU8 (((1 : UInt8).toNat : Int) * 2 ^ (min (wu64 (band .i64 t_47 7) : Int).toNat 8))))), t_50.turned⟩ : hocketlaw23_flight)).set ((w64 ((band .i64 (shr .i64 t_3 4) 15) - 1))).toNat (⟨t_51.from_, t_51.to, t_51.b, true⟩ : hocketlaw23_flight)) x_2 (⟨t_44.2.1, t_44.2.2.1, t_44.2.2.2⟩ : nets_Net) H _ _ ⟨v_2, v_106, N_62, M_67, M_62, (h.keep [0, 1, 2, 6, 7, 8, 9, 10, 11]), (hS.sel [0, 1, 2, 1002, 3] (by decide)), (le_14.trans (le_31.trans (le_41.trans (le_43.trans (le_44.trans (le_45.trans le_46)))))), (ho_41.mono mr), (hr_75.mono (Mem.un_left le_46))⟩)
               ·refine c_cond_f h rfl (ef hc_50) <| wp_skip <| x_block_n ?_
                exact x_then_n (hJ_j_4 x_1 x_2 (⟨t_44.2.1, t_44.2.2.1, t_44.2.2.2⟩ : nets_Net) H _ _ ⟨v_2, v_106, N_61, M_2, M_62, (h.keep [0, 1, 2, 6, 7, 8, 9, 10, 11]), (hS.sel [0, 1, 2, 1002, 3] (by decide)), (le_14.trans (le_31.trans (le_41.trans (le_43.trans (le_44.trans le_45))))), (ho_1.mono (le_5.trans (le_6.trans (le_14.trans (le_31.trans (le_41.trans (le_43.trans (le_44.trans le_45)))))))), (hr_75.mono (Mem.un_left mr))⟩)
              ·cases H
             clear hKJ_28
             refine wp_region_lit <| mv h rfl fun a h=>mv h rfl fun a h=>?_
             obtain ⟨hc_53, H⟩ | ⟨hc_53, H⟩ := ii H
             ·refine s_on h rfl rfl hc_53 <| mv h rfl fun a h=>s_on h rfl rfl hc_53 <| s_cmp (b := decide ((w64 ((band .i64 (shr .i64 t_43 8) 1023) - 10)) ≥ 0)) h rfl rfl rfl (.inr (.inr (.inr (.inr (.inr ⟨rfl, rfl⟩))))) fun a h=>pt h rfl hc_53 fun a h=>mv h rfl fun a h=>?_
              obtain ⟨hc_54, H⟩ | ⟨hc_54, H⟩ := ii H
              ·refine s_on h rfl rfl (dt hc_54) <| mv h rfl fun a h=>s_on h rfl rfl (dt hc_54) <| mv h rfl fun a h=>s_on h rfl rfl (dt hc_54) ?_
               obtain ⟨t_52, et_52, H⟩ := bs H
               refine v_indexO h rfl U50 ti53 rfl rfl rfl ho_1 (hS.own 3) et_52 fun ad_20 cs_20 hk_20 hc_55 => ?_
               obtain ⟨v_112, rfl, hr_79⟩ := k_hocketlaw23_flight.open' hk_20
               intro a h
               refine s_on h rfl rfl (dt hc_54) <| s_fieldAddr h rfl U53 rfl ti4 rfl rfl fun a h=>s_on h rfl rfl (dt hc_54) <| s_load h rfl rfl (el_one (o := 3) hc_55 U4 rfl rfl) fun a h=>s_on h rfl rfl (dt hc_54) <| s_not h rfl rfl fun a h=>pt h rfl (dt hc_54) fun a h=>sg h rfl fun a h=>wpList_nil ?_
               exact x_then_n (hJ_j_18 (!t_52.turned) H _ _ ⟨N_58, (h.keep [0, 1, 2, 6, 7, 8, 9, 10, 11, 19, 20]), (hS.sel [0, 1, 2, 3] (by decide)), mr⟩)
              ·refine of h rfl rfl (df hc_54) fun a h=>of h rfl rfl (df hc_54) fun a h=>of h rfl rfl (df hc_54) fun a h=>of h rfl rfl (df hc_54) fun a h=>of h rfl rfl (df hc_54) fun a h=>of h rfl rfl (df hc_54) fun a h=>pf h rfl (df hc_54) fun a h=>sg h rfl fun a h=>wpList_nil ?_
               exact x_then_n (hJ_j_18 false H _ _ ⟨N_58, (h.keep [0, 1, 2, 6, 7, 8, 9, 10, 11, 19, 20]), (hS.sel [0, 1, 2, 3] (by decide)), mr⟩)
             ·refine of h rfl rfl (ef hc_53) fun a h=>of h rfl rfl (ef hc_53) fun a h=>pf h rfl (ef hc_53) fun a h=>mv h rfl fun a h=>oo h rfl rfl fun a h=>oo h rfl rfl fun a h=>oo h rfl rfl fun a h=>oo h rfl rfl fun a h=>oo h rfl rfl fun a h=>oo h rfl rfl fun a h=>pf h rfl rfl fun a h=>sg h rfl fun a h=>?_
              refine wpList_nil ?_
              exact x_then_n (hJ_j_18 false H _ _ ⟨N_58, (h.keep [0, 1, 2, 6, 7, 8, 9, 10, 11, 19, 20]), (hS.sel [0, 1, 2, 3] (by decide)), mr⟩)
            ·refine c_cond_f h rfl (ef hc_47) <| qr <| mv h rfl fun a h=>mv h rfl fun a h=>?_
             obtain ⟨t_53, et_53, H⟩ := bs H
             refine v_index h rfl U22 ti3 rfl rfl rfl hp1_0 (hA.trans hS.old) et_53 fun ad_21 cs_21 hk_21 hc_56 => ?_
             obtain rfl := (show cs_21 = [iV t_53] from hk_21)
             intro a h
             refine s_load h rfl rfl (el_one (o := 0) hc_56 U3 rfl rfl) fun a h=>s_shift (r := shr .i64 t_53 4) h rfl rfl rfl (by decide) (.inr ⟨rfl, rfl⟩) fun a h=>s_bits (i := shr .i64 t_53 4) (j := 127) (r := band .i64 (shr .i64 t_53 4) 127) h rfl rfl rfl (.inl ⟨rfl, rfl⟩) fun a h=>sg h rfl fun a h=>wpList_nil ?_
             replace h : Fr 404 a [(0, _), (1, _), (2, _), (6, _), (7, _), (8, _), (9, iV (band .i64 (shr .i64 t_53 4) 127)), (10, _), (11, _)] := h.keep [0, 1, 2, 6, 7, 8, 9, 10, 11]
             refine x_then_n <| wp_region_lit <| mv h rfl fun a h=>mv h rfl fun a h=>?_
             obtain ⟨t_54, et_54, H⟩ := bs H
             refine s_call h rfl Try.call19 rfl (nets_Net_Split.calls _ x_4.n x_4.mask x_4.l _ _ (band .i64 (shr .i64 t_53 4) 127) t_54 w0 _ _ (A.un N_58) (Mem.un_le (hA.trans (hS.le_zed [0, 1])) (hS.new_zed [0, 1])) (hS.enter [0, 1] (by decide)) (ho_2.mono (Mem.un_left (le_5.trans (le_6.trans (le_14.trans (le_31.trans (le_41.trans le_43))))))) et_54) ?_
             rintro _ w_72 ⟨v_113, N_63, M_68, rfl, hS', hr_80⟩
             intro a h
             obtain ⟨N_64, hS'', le_47, ln_17⟩ := hS.call [0, 1] (by decide) rfl (l' := [_, _]) (ow := []) rfl hS'
             replace hS : Sep w0 w_72 [N_64, _, _, _] Z := hS''
             have hr_81 : Own k_nets_frame 60 M_68 (A.un N_64) v_113 t_54.2.2 := hr_80.mono (Mem.un_le (Mem.un_left le_47) (ln_17.trans (hS.sndA hA)))
             refine wpList_nil <| x_block_n ?_
             exact x_then_n (hJ_j_4 x_1 (band .i64 (shr .i64 t_53 4) 127) (⟨t_54.1, t_54.2.1, t_54.2.2⟩ : nets_Net) H _ _ ⟨v_2, v_113, N_64, M_2, M_68, (h.keep [0, 1, 2, 6, 7, 8, 9, 10, 11]), (hS.sel [0, 1, 2, 1002, 3] (by decide)), (le_14.trans (le_31.trans (le_41.trans (le_43.trans le_47)))), (ho_1.mono (le_5.trans (le_6.trans (le_14.trans (le_31.trans (le_41.trans (le_43.trans le_47))))))), (hr_81.mono (Mem.un_left mr))⟩)
           clear hKJ_27
           obtain ⟨hc_57, H⟩ | ⟨hc_57, H⟩ := ii H
           ·refine c_cond_t h rfl (bt hc_57) <| wp_skip ?_
            exact x_then_n (hJ_j_17 ((band .i64 t_4 15) == 12) H _ _ ⟨N_55, (h.keep [0, 1, 2, 6, 7, 8, 9, 10, 11, 12, 243]), (hS.sel [0, 1, 2, 3] (by decide)), mr⟩)
           ·refine c_cond_f h rfl (bf hc_57) <| wp_region_lit <| s_cmp (b := ((band .i64 t_4 15) == 13)) h rfl rfl rfl (.inl ⟨rfl, rfl⟩) fun a h=>sg h rfl fun a h=>wpList_nil ?_
            replace h : Fr 404 a [(0, _), (1, _), (2, _), (6, _), (7, _), (8, _), (9, _), (10, _), (11, _), (12, _), (243, .bool ((band .i64 t_4 15) == 13))] := h.keep [0, 1, 2, 6, 7, 8, 9, 10, 11, 12, 243]
            exact x_then_n (hJ_j_17 ((band .i64 t_4 15) == 13) H _ _ ⟨N_55, (h.keep [0, 1, 2, 6, 7, 8, 9, 10, 11, 12, 243]), (hS.sel [0, 1, 2, 3] (by decide)), mr⟩)
         clear hKJ_25
         obtain ⟨hc_58, H⟩ | ⟨hc_58, H⟩ := ii H
         ·refine c_cond_t h rfl (bt hc_58) <| wp_skip ?_
          exact x_then_n (hJ_j_16 ((band .i64 t_4 15) == 10) H _ _ ⟨N_41, (h.keep [0, 1, 2, 6, 7, 8, 9, 10, 11, 12, 64, 227]), (hS.sel [0, 1, 2, 3] (by decide)), mr⟩)
         ·refine c_cond_f h rfl (bf hc_58) <| wp_region_lit <| s_cmp (b := ((band .i64 t_4 15) == 11)) h rfl rfl rfl (.inl ⟨rfl, rfl⟩) fun a h=>sg h rfl fun a h=>wpList_nil ?_
          exact x_then_n (hJ_j_16 ((band .i64 t_4 15) == 11) H _ _ ⟨N_41, (h.keep [0, 1, 2, 6, 7, 8, 9, 10, 11, 12, 64, 227]), (hS.sel [0, 1, 2, 3] (by decide)), mr⟩)
      clear hKJ_19
      obtain ⟨hc_59, H⟩ | ⟨hc_59, H⟩ := ii H
      ·refine c_cond_t h rfl (bt hc_59) <| wp_skip ?_
       exact x_then_n (hJ_j_12 ((band .i64 t_4 15) == 6) H _ _ ⟨N_19, (h.keep [0, 1, 2, 6, 7, 8, 9, 10, 11, 12, 64, 147]), (hS.sel [0, 1, 2, 3] (by decide)), mr⟩)
      ·refine c_cond_f h rfl (bf hc_59) <| qr <| s_cmp (b := ((band .i64 t_4 15) == 7)) h rfl rfl rfl (.inl ⟨rfl, rfl⟩) fun a h=>sg h rfl fun a h=>wpList_nil <| x_then_n ?_
       obtain ⟨hc_60, H⟩ | ⟨hc_60, H⟩ := ii H
       ·refine c_cond_t h rfl (bt hc_60) <| wp_skip ?_
        exact x_then_n (hJ_j_12 ((band .i64 t_4 15) == 7) H _ _ ⟨N_19, (h.keep [0, 1, 2, 6, 7, 8, 9, 10, 11, 12, 64, 147]), (hS.sel [0, 1, 2, 3] (by decide)), mr⟩)
       ·refine c_cond_f h rfl (bf hc_60) <| wp_region_lit <| s_cmp (b := ((band .i64 t_4 15) == 8)) h rfl rfl rfl (.inl ⟨rfl, rfl⟩) fun a h=>sg h rfl fun a h=>wpList_nil ?_
        exact x_then_n (hJ_j_12 ((band .i64 t_4 15) == 8) H _ _ ⟨N_19, (h.keep [0, 1, 2, 6, 7, 8, 9, 10, 11, 12, 64, 147]), (hS.sel [0, 1, 2, 3] (by decide)), mr⟩)
    clear hKJ_13
    obtain ⟨hc_61, H⟩ | ⟨hc_61, H⟩ := ii H
    ·refine c_cond_t h rfl (bt hc_61) <| wp_skip ?_
     exact x_then_n (hJ_j_8 ((band .i64 t_4 15) == 0) H _ _ ⟨N_8, (h.keep [0, 1, 2, 6, 7, 8, 9, 10, 11, 12, 64, 74]), (hS.sel [0, 1, 2, 3] (by decide)), mr⟩)
    ·refine c_cond_f h rfl (bf hc_61) <| qr <| s_cmp (b := ((band .i64 t_4 15) == 1)) h rfl rfl rfl (.inl ⟨rfl, rfl⟩) fun a h=>sg h rfl fun a h=>wpList_nil ?_
     replace h : Fr 404 a [(0, _), (1, _), (2, _), (6, _), (7, _), (8, _), (9, _), (10, _), (11, _), (12, _), (64, iV (band .i64 t_4 15)), (74, .bool ((band .i64 t_4 15) == 1))] := h.keep [0, 1, 2, 6, 7, 8, 9, 10, 11, 12, 64, 74]
     refine x_then_n ?_
     obtain ⟨hc_62, H⟩ | ⟨hc_62, H⟩ := ii H
     ·refine c_cond_t h rfl (bt hc_62) <| wp_skip ?_
      exact x_then_n (hJ_j_8 ((band .i64 t_4 15) == 1) H _ _ ⟨N_8, (h.keep [0, 1, 2, 6, 7, 8, 9, 10, 11, 12, 64, 74]), (hS.sel [0, 1, 2, 3] (by decide)), mr⟩)
     ·refine c_cond_f h rfl (bf hc_62) <| qr <| s_cmp (b := ((band .i64 t_4 15) == 2)) h rfl rfl rfl (.inl ⟨rfl, rfl⟩) fun a h=>sg h rfl fun a h=>wpList_nil <| x_then_n ?_
      obtain ⟨hc_63, H⟩ | ⟨hc_63, H⟩ := ii H
      ·refine c_cond_t h rfl (bt hc_63) <| wp_skip ?_
       exact x_then_n (hJ_j_8 ((band .i64 t_4 15) == 2) H _ _ ⟨N_8, (h.keep [0, 1, 2, 6, 7, 8, 9, 10, 11, 12, 64, 74]), (hS.sel [0, 1, 2, 3] (by decide)), mr⟩)
      ·refine c_cond_f h rfl (bf hc_63) <| qr <| s_cmp (b := ((band .i64 t_4 15) == 3)) h rfl rfl rfl (.inl ⟨rfl, rfl⟩) fun a h=>sg h rfl fun a h=>wpList_nil <| x_then_n ?_
       obtain ⟨hc_64, H⟩ | ⟨hc_64, H⟩ := ii H
       ·refine c_cond_t h rfl (bt hc_64) <| wp_skip ?_
        exact x_then_n (hJ_j_8 ((band .i64 t_4 15) == 3) H _ _ ⟨N_8, (h.keep [0, 1, 2, 6, 7, 8, 9, 10, 11, 12, 64, 74]), (hS.sel [0, 1, 2, 3] (by decide)), mr⟩)
       ·refine c_cond_f h rfl (bf hc_64) <| qr <| s_cmp (b := ((band .i64 t_4 15) == 4)) h rfl rfl rfl (.inl ⟨rfl, rfl⟩) fun a h=>sg h rfl fun a h=>wpList_nil <| x_then_n ?_
        obtain ⟨hc_65, H⟩ | ⟨hc_65, H⟩ := ii H
        ·refine c_cond_t h rfl (bt hc_65) <| wp_skip ?_
         exact x_then_n (hJ_j_8 ((band .i64 t_4 15) == 4) H _ _ ⟨N_8, (h.keep [0, 1, 2, 6, 7, 8, 9, 10, 11, 12, 64, 74]), (hS.sel [0, 1, 2, 3] (by decide)), mr⟩)
        ·refine c_cond_f h rfl (bf hc_65) <| wp_region_lit <| s_cmp (b := ((band .i64 t_4 15) == 5)) h rfl rfl rfl (.inl ⟨rfl, rfl⟩) fun a h=>sg h rfl fun a h=>wpList_nil ?_
         replace h : Fr 404 a [(0, _), (1, _), (2, _), (6, _), (7, _), (8, _), (9, _), (10, _), (11, _), (12, _), (64, _), (74, .bool ((band .i64 t_4 15) == 5))] := h.keep [0, 1, 2, 6, 7, 8, 9, 10, 11, 12, 64, 74]
         exact x_then_n (hJ_j_8 ((band .i64 t_4 15) == 5) H _ _ ⟨N_8, (h.keep [0, 1, 2, 6, 7, 8, 9, 10, 11, 12, 64, 74]), (hS.sel [0, 1, 2, 3] (by decide)), mr⟩)
   clear hKJ_6
   refine wp_region_lit <| mv h rfl fun a h=>s_cmp (b := decide ((w64 ((band .i64 (shr .i64 t_3 4) 15) - 1)) ≥ 0)) h rfl rfl rfl (.inr (.inr (.inr (.inr (.inr ⟨rfl, rfl⟩))))) fun a h=>mv h rfl fun a h=>?_
   obtain ⟨hc_66, H⟩ | ⟨hc_66, H⟩ := ii H
   ·refine s_on h rfl rfl (dt hc_66) <| mv h rfl fun a h=>s_on h rfl rfl (dt hc_66) <| mv h rfl fun a h=>s_on h rfl rfl (dt hc_66) <| s_lenO h rfl U50 rfl ho_1 fun a h=>s_on h rfl rfl (dt hc_66) <| s_cmp (b := decide ((w64 ((band .i64 (shr .i64 t_3 4) 15) - 1)) < (x_1.length : Int))) h rfl rfl rfl (.inr (.inr (.inl ⟨rfl, rfl⟩))) fun a h=>pt h rfl (dt hc_66) fun a h=>sg h rfl fun a h=>wpList_nil ?_
    exact x_then_n (hJ_j_3 (decide ((w64 ((band .i64 (shr .i64 t_3 4) 15) - 1)) < (x_1.length : Int))) H _ _ ⟨N_7, (h.keep [0, 1, 2, 6, 7, 8, 9, 10, 11, 12]), (hS.sel [0, 1, 2, 3] (by decide)), mr⟩)
   ·refine of h rfl rfl (df hc_66) fun a h=>of h rfl rfl (df hc_66) fun a h=>of h rfl rfl (df hc_66) fun a h=>of h rfl rfl (df hc_66) fun a h=>pf h rfl (df hc_66) fun a h=>sg h rfl fun a h=>wpList_nil ?_
    exact x_then_n (hJ_j_3 false H _ _ ⟨N_7, (h.keep [0, 1, 2, 6, 7, 8, 9, 10, 11, 12]), (hS.sel [0, 1, 2, 3] (by decide)), mr⟩)
  ·refine c_cond_f h rfl (ef hc_1) <| wp_exit (x_then_x (x_then_x (x_block_t ?_)))
   exact x_then_n (hJ_j_1  H _ _ ⟨N_7, (h.keep [6]), (hS.sel [0, 1000, 1001] (by decide)), (le_4.trans le_5)⟩)
 clear hKJ_4
 refine wp_region_lit <| mv h rfl fun a h=>mv h rfl fun a h=>s_len h rfl U22 rfl hp1_0 fun a h=>s_cmp (b := decide (x_3 < (x1.length : Int))) h rfl rfl rfl (.inr (.inr (.inl ⟨rfl, rfl⟩))) fun a h=>mv h rfl fun a h=>?_
 obtain ⟨hc_67, H⟩ | ⟨hc_67, H⟩ := ii H
 ·refine s_on h rfl rfl (dt hc_67) <| mv h rfl fun a h=>s_on h rfl rfl (dt hc_67) <| s_cmp (b := decide (x_3 < 120)) h rfl rfl rfl (.inr (.inr (.inl ⟨rfl, rfl⟩))) fun a h=>pt h rfl (dt hc_67) fun a h=>wpList_nil ?_
  exact x_then_n (hJ_j_2 (decide (x_3 < 120)) H _ _ ⟨N_6, (h.keep [0, 1, 2, 6, 7, 8, 9, 10, 42]), (hS.sel [0, 1, 2, 3] (by decide)), mr⟩)
 ·refine of h rfl rfl (df hc_67) fun a h=>of h rfl rfl (df hc_67) fun a h=>pf h rfl (df hc_67) fun a h=>wpList_nil ?_
  exact x_then_n (hJ_j_2 false H _ _ ⟨N_6, (h.keep [0, 1, 2, 6, 7, 8, 9, 10, 42]), (hS.sel [0, 1, 2, 3] (by decide)), mr⟩)


end Go.Proofs
