/- What the calls do: each function once. -/
import Derived.Test.YtploijfgnnkddaaBlobPartsc2
namespace Go.Proofs
open Go.Gp
set_option linter.unusedVariables false
set_option maxHeartbeats 4000000 in
set_option maxRecDepth 20000 in
theorem hocketref4_Apply.calls (K : Nat) (x0 : api_Objects) (p0_0 : Value) (p0_1 : Value) (p0_2 : Value) (p0_3 : Value) (x1 : api_Cmd) (p1_4 : Value) (p1_5 : Value) (p1_6 : Value) (r : api_Objects × api_Result) (w0 w : World) (Z A : Mem) (hA : A.le Z) (hS : Sep w0 w [] Z) (hp0_0 : Rd Kd.u8 A p0_0 x0.Reg) (hp0_1 : Rd (Kd.slice Kd.u8) A p0_1 x0.Queue) (hp0_2 : Rd (Kd.int .i64) A p0_2 x0.Lock) (hp0_3 : Rd k_api_Pair A p0_3 x0.Map) (hp1_4 : Rd Kd.u8 A p1_4 x1.Key) (hp1_5 : Rd Kd.u8 A p1_5 x1.Val) (hp1_6 : Rd Kd.u8 A p1_6 x1.Old)
    (H : hocketref4_Apply.f K x0 x1 = some r) :
    Calls Try.prog 80 [.agg ([p0_0, p0_1, p0_2, p0_3] : List Value).toArray, .agg (E24 x1 p1_4 p1_5 p1_6).toArray].toArray w (Ret fun v w' => ∃ (u0 : Value) (u1 : Value) (u2 : Value) (u3 : Value) (u4 : Value) (N : Mem) (M0 : Mem) (M1 : Mem) (M2 : Mem) (M3 : Mem), v = .tuple [.agg [u0, u1, u2, u3].toArray, .agg (E91 r.2 u4).toArray].toArray ∧ Sep w0 w' [N, M0, M1, M2, M3] Z ∧ Own Kd.u8 5 M0 Mem.no u0 r.1.Reg ∧ Own (Kd.slice Kd.u8) 22 M1 N u1 r.1.Queue ∧ Own (Kd.int .i64) 3 M2 Mem.no u2 r.1.Lock ∧ Own k_api_Pair 88 M3 N u3 r.1.Map ∧ Rd Kd.u8 N u4 r.2.Val) := by
 unfold hocketref4_Apply.f at H
 refine f_enter _ Try.func80 rfl Try.ntmps80 rfl fun a h=>?_
 replace h : Fr 144 a [(0, .agg ([p0_0, p0_1, p0_2, p0_3] : List Value).toArray), (1, .agg (E24 x1 p1_4 p1_5 p1_6).toArray)] := h
 replace hS := hS.start
 refine qr <| v_box (vs := [p0_0, p0_1, p0_2, p0_3]) h rfl rfl rfl hS fun w_1 g_1 hS' a h => ?_
 replace hS : Sep w0 w_1 [_, bx g_1 32 [p0_0, p0_1, p0_2, p0_3]] Z := hS'
 refine v_box (vs := (E24 x1 p1_4 p1_5 p1_6)) h rfl rfl rfl hS fun w_2 g_2 hS' a h => ?_
 replace hS : Sep w0 w_2 [_, _, bx g_2 24 (E24 x1 p1_4 p1_5 p1_6)] Z := hS'
 refine v_alloc h rfl ti32 hS fun w_3 g_3 hS' a h => ?_
 replace hS : Sep w0 w_3 [_, _, _, bx g_3 32 [nS, nS, nS, nS]] Z := hS'
 refine v_alloc h rfl ti91 hS fun w_4 g_4 hS' a h => ?_
 replace hS : Sep w0 w_4 [_, _, _, _, bx g_4 91 [iV 0, nS, iV 0]] Z := hS'
 refine nx <| c_seq fun KJ_1 hKJ_1 => h_begin (S := fun w => Sep w0 w [Mem.no, Mem.no, bx g_2 24 (E24 x1 p1_4 p1_5 p1_6), bx g_3 32 [nS, nS, nS, nS], bx g_4 91 [iV 0, nS, iV 0]] Z) 15 (by kernel_rfl) rfl (bA 15 0) (by kernel_rfl) hS fun w_5 hS => ?_
 refine t_take 0 (bA 15 1) rfl rfl rfl rfl h (hS.sub (.cons mr (.zz .ii))) (v := .pointer (some ⟨g_1, 0, none⟩)) (fun w hS => r_fieldAddr h U32 rfl ti22 rfl rfl rfl) fun a h=>t_take 3 (bA 15 9) rfl rfl rfl rfl h (hS.sub (.cons mr (.zz .ii))) (v := .pointer (some ⟨g_1, 1, none⟩)) (fun w hS => r_fieldAddr h U32 rfl ti28 rfl rfl rfl) fun a h=>t_take 7 (bA 15 137) rfl rfl rfl rfl h (hS.sub (.cons mr (.zz .ii))) (v := .pointer (some ⟨g_1, 2, none⟩)) (fun w hS => r_fieldAddr h U32 rfl ti29 rfl rfl rfl) fun a h=>t_take 10 (bA 15 1161) rfl rfl rfl rfl h (hS.sub (.cons mr (.zz .ii))) (v := .pointer (some ⟨g_1, 3, none⟩)) (fun w hS => r_fieldAddr h U32 rfl ti30 rfl rfl rfl) fun a h=>?_
 obtain ⟨t_1, et_1, H⟩ := bs H
 obtain ⟨t_2, et_2, H⟩ := bs H
 obtain ⟨t_3, et_3, H⟩ := bs H
 obtain ⟨t_4, et_4, H⟩ := bs H
 refine h_state fun GD_1 hGD_1 => ?_
 have hD_1 : ∀ (a : Act) (w_6 : World), (∃ (v_1 : Value) (v_2 : Value) (v_3 : Value) (v_4 : Value) (N_1 : Mem) (M_1 : Mem) (M_2 : Mem) (M_3 : Mem) (M_4 : Mem), Fr 144 a [(2, .pointer (some ⟨g_1, 0, none⟩)), (3, .pointer (some ⟨g_2, 0, none⟩)), (4, .pointer (some ⟨g_3, 0, none⟩)), (5, .pointer (some ⟨g_4, 0, none⟩))] ∧ Sep w0 w_6 [N_1, bx g_1 32 [v_1, v_2, v_3, v_4], bx g_2 24 (E24 x1 p1_4 p1_5 p1_6), bx g_3 32 [nS, nS, nS, nS], bx g_4 91 [iV 0, nS, iV 0], M_1, M_2, M_3, M_4] Z ∧ Mem.no.le N_1 ∧ Own Kd.u8 5 M_1 Mem.no v_1 t_1 ∧ Own (Kd.slice Kd.u8) 22 M_2 N_1 v_2 t_2 ∧ Own (Kd.int .i64) 3 M_3 Mem.no v_3 t_3 ∧ Own k_api_Pair 88 M_4 N_1 v_4 t_4) → GD_1 0 (bA 15 32767) a w_6 := by
  rintro a w_6 ⟨v_1, v_2, v_3, v_4, N_1, M_1, M_2, M_3, M_4, h, hS, le_1, ho_1, ho_2, ho_3, ho_4⟩
  refine (hGD_1 _ _ _ _).2 <| h_done (by kernel_rfl) <| x_then_n (hKJ_1 _ _ ?_)
  refine wp_seq <| wp_region_lit ?_
  obtain ⟨t_5, et_5, H⟩ := bs H
  refine s_call h rfl Try.call98 rfl (hocketref4_bad.calls 7 t_5 w0 _ _ _ mr (hS.enter [] (by decide))  et_5) ?_
  rintro _ w_7 ⟨v_5, N_2, M_5, rfl, hS', hr_1⟩
  intro a h
  obtain ⟨N_3, hS'', le_2, ln_1⟩ := hS.call [] (by decide) rfl (l' := []) (ow := [_]) rfl hS'
  replace hS : Sep w0 w_7 [N_3, _, _, _, _, _, _, _, _, _] Z := hS''
  refine v_alloc h rfl ti91 hS fun w_8 g_5 hS' a h => ?_
  replace hS : Sep w0 w_8 [_, _, _, _, _, _, _, _, _, _, bx g_5 91 [iV 0, nS, iV 0]] Z := hS'
  refine sto 10 h rfl rfl hS rfl ti91 rfl rfl rfl (oa 1 rfl (oc hr_1.one (oz rfl))) fun w_9 hS' => ?_
  replace hS : Sep w0 w_9 [_, _, _, _, _, _, _, _, _, _, bx g_5 91 (E91 t_5 v_5)] Z := hS'
  refine nx <| c_seq fun KJ_2 hKJ_2 => ?_
  have hJ_j_1 : ∀ (x_1 : Bool), hocketref4_Apply.J1 K x1 t_1 t_2 t_3 t_4 t_5 x_1 = some r → ∀ (a : Act) (w_10 : World), (∃ (N_4 : Mem), Fr 144 a [(2, .pointer (some ⟨g_1, 0, none⟩)), (3, .pointer (some ⟨g_2, 0, none⟩)), (4, .pointer (some ⟨g_3, 0, none⟩)), (5, .pointer (some ⟨g_4, 0, none⟩)), (6, .pointer (some ⟨g_5, 0, none⟩)), (7, .bool x_1)] ∧ Sep w0 w_10 [N_4, bx g_1 32 [v_1, v_2, v_3, v_4], bx g_2 24 (E24 x1 p1_4 p1_5 p1_6), bx g_3 32 [nS, nS, nS, nS], bx g_4 91 [iV 0, nS, iV 0], M_1, M_2, M_3, M_4, M_5, bx g_5 91 (E91 t_5 v_5)] Z ∧ N_3.le N_4) → KJ_2 a w_10 := by
   clear H h hS a
   rintro x_1 H a w_10 ⟨N_4, h, hS, le_3⟩
   unfold hocketref4_Apply.J1 at H
   refine hKJ_2 _ _ <| c_seq fun KJ_3 hKJ_3 => qr <| s_fieldAddr h rfl U24 rfl ti3 rfl rfl fun a h=>s_load h rfl rfl (hS.load_one (p := 2) rfl U3 rfl rfl) fun a h=>wpList_nil ?_
   replace h : Fr 144 a [(2, _), (3, _), (4, _), (5, _), (6, _), (7, _), (32, iV x1.Kind)] := h.keep [2, 3, 4, 5, 6, 7, 32]
   refine x_then_n ?_
   have hJ_j_2 : ∀ (x_2 : api_Objects), ∀ (x_3 : api_Result), hocketref4_Apply.J2 K x_2 x_3 = some r → ∀ (a : Act) (w_11 : World), (∃ (v_6 : Value) (v_7 : Value) (v_8 : Value) (v_9 : Value) (v_10 : Value) (N_5 : Mem) (M_6 : Mem) (M_7 : Mem) (M_8 : Mem) (M_9 : Mem), Fr 144 a [(2, .pointer (some ⟨g_1, 0, none⟩)), (4, .pointer (some ⟨g_3, 0, none⟩)), (5, .pointer (some ⟨g_4, 0, none⟩)), (6, .pointer (some ⟨g_5, 0, none⟩))] ∧ Sep w0 w_11 [N_5, bx g_1 32 [v_6, v_7, v_8, v_9], Mem.no, bx g_3 32 [nS, nS, nS, nS], bx g_4 91 [iV 0, nS, iV 0], Mem.no, Mem.no, Mem.no, Mem.no, Mem.no, bx g_5 91 (E91 x_3 v_10), M_6, M_7, M_8, M_9] Z ∧ N_4.le N_5 ∧ Own Kd.u8 5 M_6 Mem.no v_6 x_2.Reg ∧ Own (Kd.slice Kd.u8) 22 M_7 N_5 v_7 x_2.Queue ∧ Own (Kd.int .i64) 3 M_8 Mem.no v_8 x_2.Lock ∧ Own k_api_Pair 88 M_9 N_5 v_9 x_2.Map ∧ Rd Kd.u8 N_5 v_10 x_3.Val) → KJ_3 a w_11 := by
    clear H h hS a
    rintro x_2 x_3 H a w_11 ⟨v_6, v_7, v_8, v_9, v_10, N_5, M_6, M_7, M_8, M_9, h, hS, le_4, ho_5, ho_6, ho_7, ho_8, hr_2⟩
    unfold hocketref4_Apply.J2 at H
    refine hKJ_3 _ _ <| c_seq fun KJ_4 hKJ_4 => ?_
    replace hS : Sep w0 w_11 [N_5, bx g_1 32 [v_6, v_7, v_8, v_9], bx g_3 32 [nS, nS, nS, nS], bx g_4 91 [iV 0, nS, iV 0], bx g_5 91 (E91 x_3 v_10), M_6, M_7, M_8, M_9] Z := hS.sel [0, 1, 3, 4, 10, 11, 12, 13, 14] (by decide)
    refine h_begin (S := fun w => Sep w0 w [N_5, bx g_1 32 [v_6, v_7, v_8, v_9], Mem.no, Mem.no, bx g_5 91 (E91 x_3 v_10), M_6, M_7, M_8, M_9] Z) 4 (by kernel_rfl) rfl (bA 4 0) (by kernel_rfl) hS fun w_12 hS => ?_
    refine t_take 0 (bA 4 1) rfl rfl rfl rfl h (hS.sub (.cons mr (.rr (.zz (.zz .ii))))) (v := .agg ([v_6, v_7, v_8, v_9] : List Value).toArray) (fun w hS => r_load h rfl (hS.load_agg (p := 1) (us := [v_6, v_7, v_8, v_9]) rfl U32 rfl ti32 rfl rfl)) fun a h=>t_take 1 (bA 4 3) rfl rfl rfl rfl h (hS.sub (.cons mr (.rr (.zz (.zz .ii))))) (v := .agg (E91 x_3 v_10).toArray) (fun w hS => r_load h rfl (hS.load_agg (p := 4) (us := (E91 x_3 v_10)) rfl U91 rfl ti91 rfl rfl)) fun a h=>h_event 2 (bA 4 7) rfl (by kernel_rfl) (by kernel_rfl) ?_
    refine sto 2 h rfl rfl hS rfl ti32 rfl rfl rfl (oc ho_5.one (oc ho_6.one (oc ho_7.one (oc ho_8.one on0)))) fun w_13 hS' => ?_
    replace hS : Sep w0 w_13 [_, _, bx g_3 32 [v_6, v_7, v_8, v_9], _, _, _, _, _, _] Z := hS'
    refine ne (hS.sub (.cons mr (.rr (.zz (.zz .ii))))) fun hs => ?_
    refine h_event 3 (bA 4 15) rfl (by kernel_rfl) (by kernel_rfl) ?_
    refine sto 3 h rfl rfl hS rfl ti91 rfl rfl rfl (oa 1 rfl (oc hr_2.one (oz rfl))) fun w_14 hS' => ?_
    replace hS : Sep w0 w_14 [_, _, _, bx g_4 91 (E91 x_3 v_10), _, _, _, _, _] Z := hS'
    refine ne (hS.sub (.cons mr (.rr (.zz (.zz .ii))))) fun hs => ?_
    refine h_done (by kernel_rfl) <| x_then_n (hKJ_4 _ _ ?_)
    refine wp_ret ?_
    obtain rfl := Option.some.inj H
    exact f_ret h (rs := [.cell 4 32, .cell 5 91]) rfl (.cell rfl (hS.load_agg (p := 2) (us := [v_6, v_7, v_8, v_9]) rfl U32 rfl ti32 rfl rfl) (.cell rfl (hS.load_agg (p := 3) (us := (E91 x_3 v_10)) rfl U91 rfl ti91 rfl rfl) .nil)) ⟨_, rfl, v_6, v_7, v_8, v_9, v_10, N_5, M_6, M_7, M_8, M_9, rfl, (hS.sel [0, 5, 6, 7, 8] (by decide)), ho_5, (ho_6.mono mr), ho_7, (ho_8.mono mr), hr_2⟩
   clear hKJ_3
   refine c_block <| qr <| s_cmp (b := (x1.Kind == 1)) h rfl rfl rfl (.inl ⟨rfl, rfl⟩) fun a h=>sg h rfl fun a h=>wpList_nil <| x_then_n ?_
   obtain ⟨hc_1, H⟩ | ⟨hc_1, H⟩ := ii H
   ·refine c_cond_t h rfl (bt hc_1) <| wp_region_lit <| s_fieldAddr h rfl U32 rfl ti22 rfl rfl fun a h=>s_load h rfl rfl (hS.load_one (p := 1) rfl U22 rfl rfl) fun a h=>?_
    obtain ⟨t_6, et_6, H⟩ := bs H
    refine s_call h rfl Try.call104 rfl (hocketref4_Read.calls t_1 _ t_6 w0 _ _ _ mr (hS.enter [] (by decide)) (ho_1.rd (hS.own_zed [] 4 (by decide)) (Mem.no_le _)) et_6) ?_
    rintro _ w_15 ⟨v_11, N_6, M_10, rfl, hS', hr_3⟩
    intro a h
    obtain ⟨N_7, hS'', le_5, ln_2⟩ := hS.call [] (by decide) rfl (l' := []) (ow := [_]) rfl hS'
    replace hS : Sep w0 w_15 [N_7, _, _, _, _, _, _, _, _, _, _, _] Z := hS''
    refine sto 10 h rfl rfl hS rfl ti91 rfl rfl rfl (oa 1 rfl (oc hr_3.one (oz rfl))) fun w_16 hS' => ?_
    replace hS : Sep w0 w_16 [_, _, _, _, _, _, _, _, _, _, bx g_5 91 (E91 t_6 v_11), _] Z := hS'
    refine wpList_nil <| x_block_n ?_
    obtain ⟨N_8, hS', le_6, lo_1⟩ := hS.freeze 10 rfl
    replace hS : Sep w0 w_16 [N_8, _, _, _, _, _, _, _, _, _, _, Mem.no] Z := hS'
    exact x_then_n (hJ_j_2 (⟨t_1, t_2, t_3, t_4⟩ : api_Objects) t_6 H _ _ ⟨v_1, v_2, v_3, v_4, v_11, N_8, M_1, M_2, M_3, M_4, (h.to rfl), (hS.sel [0, 1, 1001, 3, 4, 1004, 1005, 1006, 1007, 1008, 10, 5, 6, 7, 8] (by decide)), (le_5.trans le_6), ho_1, (ho_2.mono (le_2.trans (le_3.trans (le_5.trans le_6)))), ho_3, (ho_4.mono (le_2.trans (le_3.trans (le_5.trans le_6)))), (hr_3.rd lo_1 (Mem.no_le _))⟩)
   ·refine c_cond_f h rfl (bf hc_1) <| qr <| s_cmp (b := (x1.Kind == 2)) h rfl rfl rfl (.inl ⟨rfl, rfl⟩) fun a h=>sg h rfl fun a h=>wpList_nil <| x_then_n ?_
    obtain ⟨hc_2, H⟩ | ⟨hc_2, H⟩ := ii H
    ·refine c_cond_t h rfl (bt hc_2) <| wp_region_lit <| s_fieldAddr h rfl U32 rfl ti22 rfl rfl fun a h=>s_load h rfl rfl (hS.load_one (p := 1) rfl U22 rfl rfl) fun a h=>s_fieldAddr h rfl U24 rfl ti22 rfl rfl fun a h=>s_load h rfl rfl (hS.load_one (p := 2) rfl U22 rfl rfl) fun a h=>?_
     obtain ⟨t_7, et_7, H⟩ := bs H
     refine s_call h rfl Try.call105 rfl (hocketref4_Write.calls t_1 _ x1.Val _ t_7 w0 _ _ _ mr (hS.enter [] (by decide)) (ho_1.rd (hS.own_zed [] 4 (by decide)) (Mem.no_le _)) (hp1_5.mono (hA.trans (hS.le_zed []))) et_7) ?_
     rintro _ w_17 ⟨v_12, v_13, N_9, M_11, M_12, rfl, hS', hr_4, hr_5⟩
     intro a h
     obtain ⟨N_10, hS'', le_7, ln_3⟩ := hS.call [] (by decide) rfl (l' := []) (ow := [_, _]) rfl hS'
     replace hS : Sep w0 w_17 [N_10, _, _, _, _, _, _, _, _, _, _, _, _] Z := hS''
     refine mv h rfl fun a h=>s_extract h rfl rfl rfl fun a h=>s_extract h rfl rfl rfl fun a h=>s_fieldAddr h rfl U32 rfl ti22 rfl rfl fun a h=>?_
     refine sto 1 h rfl rfl hS rfl ti22 hr_4.cellsA rfl rfl (oc hr_4.one on0) fun w_18 hS' => ?_
     replace hS : Sep w0 w_18 [_, bx g_1 32 [v_12, _, _, _], _, _, _, _, _, _, _, _, _, _, _] Z := hS'
     refine sto 10 h rfl rfl hS rfl ti91 rfl rfl rfl (oa 1 rfl (oc hr_5.one (oz rfl))) fun w_19 hS' => ?_
     replace hS : Sep w0 w_19 [_, _, _, _, _, _, _, _, _, _, bx g_5 91 (E91 t_7.2 v_13), _, _] Z := hS'
     refine wpList_nil <| x_block_n ?_
     obtain ⟨N_11, hS', le_8, lo_2⟩ := hS.freeze 11 rfl
     replace hS : Sep w0 w_19 [N_11, _, _, _, _, _, _, _, _, _, _, _, Mem.no] Z := hS'
     exact x_then_n (hJ_j_2 (⟨t_7.1, t_2, t_3, t_4⟩ : api_Objects) t_7.2 H _ _ ⟨v_12, v_2, v_3, v_4, v_13, N_11, M_11, M_2, M_3, M_4, (h.to rfl), (hS.sel [0, 1, 1001, 3, 4, 1004, 1005, 1006, 1007, 1008, 10, 11, 6, 7, 8] (by decide)), (le_7.trans le_8), hr_4, (ho_2.mono (le_2.trans (le_3.trans (le_7.trans le_8)))), ho_3, (ho_4.mono (le_2.trans (le_3.trans (le_7.trans le_8)))), (hr_5.rd lo_2 (Mem.no_le _))⟩)
    ·refine c_cond_f h rfl (bf hc_2) <| qr <| s_cmp (b := (x1.Kind == 3)) h rfl rfl rfl (.inl ⟨rfl, rfl⟩) fun a h=>sg h rfl fun a h=>wpList_nil <| x_then_n ?_
     obtain ⟨hc_3, H⟩ | ⟨hc_3, H⟩ := ii H
     ·refine c_cond_t h rfl (bt hc_3) <| wp_region_lit <| s_fieldAddr h rfl U32 rfl ti22 rfl rfl fun a h=>s_load h rfl rfl (hS.load_one (p := 1) rfl U22 rfl rfl) fun a h=>s_fieldAddr h rfl U24 rfl ti22 rfl rfl fun a h=>s_load h rfl rfl (hS.load_one (p := 2) rfl U22 rfl rfl) fun a h=>s_fieldAddr h rfl U24 rfl ti22 rfl rfl fun a h=>s_load h rfl rfl (hS.load_one (p := 2) rfl U22 rfl rfl) fun a h=>?_
      obtain ⟨t_8, et_8, H⟩ := bs H
      refine s_call h rfl Try.call106 rfl (hocketref4_Cas.calls t_1 _ x1.Old _ x1.Val _ t_8 w0 _ _ _ mr (hS.enter [] (by decide)) (ho_1.rd (hS.own_zed [] 4 (by decide)) (Mem.no_le _)) (hp1_6.mono (hA.trans (hS.le_zed []))) (hp1_5.mono (hA.trans (hS.le_zed []))) et_8) ?_
      rintro _ w_20 ⟨v_14, v_15, N_12, M_13, M_14, rfl, hS', hr_6, hr_7⟩
      intro a h
      obtain ⟨N_13, hS'', le_9, ln_4⟩ := hS.call [] (by decide) rfl (l' := []) (ow := [_, _]) rfl hS'
      replace hS : Sep w0 w_20 [N_13, _, _, _, _, _, _, _, _, _, _, _, _] Z := hS''
      refine mv h rfl fun a h=>s_extract h rfl rfl rfl fun a h=>s_extract h rfl rfl rfl fun a h=>s_fieldAddr h rfl U32 rfl ti22 rfl rfl fun a h=>?_
      refine sto 1 h rfl rfl hS rfl ti22 hr_6.cellsA rfl rfl (oc hr_6.one on0) fun w_21 hS' => ?_
      replace hS : Sep w0 w_21 [_, bx g_1 32 [v_14, _, _, _], _, _, _, _, _, _, _, _, _, _, _] Z := hS'
      refine sto 10 h rfl rfl hS rfl ti91 rfl rfl rfl (oa 1 rfl (oc hr_7.one (oz rfl))) fun w_22 hS' => ?_
      replace hS : Sep w0 w_22 [_, _, _, _, _, _, _, _, _, _, bx g_5 91 (E91 t_8.2 v_15), _, _] Z := hS'
      refine wpList_nil ?_
      replace h : Fr 144 a [(2, _), (4, _), (5, _), (6, _)] := h.keep [2, 4, 5, 6]
      refine x_block_n ?_
      obtain ⟨N_14, hS', le_10, lo_3⟩ := hS.freeze 11 rfl
      replace hS : Sep w0 w_22 [N_14, _, _, _, _, _, _, _, _, _, _, _, Mem.no] Z := hS'
      exact x_then_n (hJ_j_2 (⟨t_8.1, t_2, t_3, t_4⟩ : api_Objects) t_8.2 H _ _ ⟨v_14, v_2, v_3, v_4, v_15, N_14, M_13, M_2, M_3, M_4, (h.to rfl), (hS.sel [0, 1, 1001, 3, 4, 1004, 1005, 1006, 1007, 1008, 10, 11, 6, 7, 8] (by decide)), (le_9.trans le_10), hr_6, (ho_2.mono (le_2.trans (le_3.trans (le_9.trans le_10)))), ho_3, (ho_4.mono (le_2.trans (le_3.trans (le_9.trans le_10)))), (hr_7.rd lo_3 (Mem.no_le _))⟩)
     ·refine c_cond_f h rfl (bf hc_3) <| qr <| s_cmp (b := (x1.Kind == 4)) h rfl rfl rfl (.inl ⟨rfl, rfl⟩) fun a h=>sg h rfl fun a h=>wpList_nil ?_
      replace h : Fr 144 a [(2, _), (3, _), (4, _), (5, _), (6, _), (7, _), (32, _), (62, .bool (x1.Kind == 4))] := h.keep [2, 3, 4, 5, 6, 7, 32, 62]
      refine x_then_n ?_
      obtain ⟨hc_4, H⟩ | ⟨hc_4, H⟩ := ii H
      ·refine c_cond_t h rfl (bt hc_4) <| wp_region_lit <| s_fieldAddr h rfl U32 rfl ti28 rfl rfl fun a h=>s_load h rfl rfl (hS.load_one (p := 1) rfl U28 rfl rfl) fun a h=>s_fieldAddr h rfl U24 rfl ti22 rfl rfl fun a h=>s_load h rfl rfl (hS.load_one (p := 2) rfl U22 rfl rfl) fun a h=>?_
       obtain ⟨t_9, et_9, H⟩ := bs H
       refine s_call h rfl Try.call107 rfl (hocketref4_Push.calls K t_2 _ x1.Val _ t_9 w0 _ _ _ mr (hS.enter [] (by decide)) (ho_2.rd (hS.own_zed [] 5 (by decide)) ((le_2.trans le_3).trans (hS.new_zed []))) (hp1_5.mono (hA.trans (hS.le_zed []))) et_9) ?_
       rintro _ w_23 ⟨v_16, v_17, N_15, M_15, M_16, rfl, hS', hr_8, hr_9⟩
       intro a h
       obtain ⟨N_16, hS'', le_11, ln_5⟩ := hS.call [] (by decide) rfl (l' := []) (ow := [_, _]) rfl hS'
       replace hS : Sep w0 w_23 [N_16, _, _, _, _, _, _, _, _, _, _, _, _] Z := hS''
       refine mv h rfl fun a h=>s_extract h rfl rfl rfl fun a h=>s_extract h rfl rfl rfl fun a h=>s_fieldAddr h rfl U32 rfl ti28 rfl rfl fun a h=>?_
       refine sto 1 h rfl rfl hS rfl ti28 (hr_8.mono ln_5).cellsA rfl rfl (oc (hr_8.mono ln_5).one on0) fun w_24 hS' => ?_
       replace hS : Sep w0 w_24 [_, bx g_1 32 [_, v_16, _, _], _, _, _, _, _, _, _, _, _, _, _] Z := hS'
       refine sto 10 h rfl rfl hS rfl ti91 rfl rfl rfl (oa 1 rfl (oc hr_9.one (oz rfl))) fun w_25 hS' => ?_
       replace hS : Sep w0 w_25 [_, _, _, _, _, _, _, _, _, _, bx g_5 91 (E91 t_9.2 v_17), _, _] Z := hS'
       refine wpList_nil <| x_block_n ?_
       obtain ⟨N_17, hS', le_12, lo_4⟩ := hS.freeze 11 rfl
       replace hS : Sep w0 w_25 [N_17, _, _, _, _, _, _, _, _, _, _, _, Mem.no] Z := hS'
       exact x_then_n (hJ_j_2 (⟨t_1, t_9.1, t_3, t_4⟩ : api_Objects) t_9.2 H _ _ ⟨v_1, v_16, v_3, v_4, v_17, N_17, M_1, M_15, M_3, M_4, (h.to rfl), (hS.sel [0, 1, 1001, 3, 4, 1004, 1005, 1006, 1007, 1008, 10, 5, 11, 7, 8] (by decide)), (le_11.trans le_12), ho_1, ((hr_8.mono ln_5).mono le_12), ho_3, (ho_4.mono (le_2.trans (le_3.trans (le_11.trans le_12)))), (hr_9.rd lo_4 (Mem.no_le _))⟩)
      ·refine c_cond_f h rfl (bf hc_4) <| qr <| s_cmp (b := (x1.Kind == 5)) h rfl rfl rfl (.inl ⟨rfl, rfl⟩) fun a h=>sg h rfl fun a h=>wpList_nil <| x_then_n ?_
       obtain ⟨hc_5, H⟩ | ⟨hc_5, H⟩ := ii H
       ·refine c_cond_t h rfl (bt hc_5) <| wp_region_lit <| s_fieldAddr h rfl U32 rfl ti28 rfl rfl fun a h=>s_load h rfl rfl (hS.load_one (p := 1) rfl U28 rfl rfl) fun a h=>?_
        obtain ⟨t_10, et_10, H⟩ := bs H
        refine s_call h rfl Try.call108 rfl (hocketref4_Pop.calls K t_2 _ t_10 w0 _ _ _ mr (hS.enter [] (by decide)) (ho_2.rd (hS.own_zed [] 5 (by decide)) ((le_2.trans le_3).trans (hS.new_zed []))) et_10) ?_
        rintro _ w_26 ⟨v_18, v_19, N_18, M_17, M_18, rfl, hS', hr_10, hr_11⟩
        intro a h
        obtain ⟨N_19, hS'', le_13, ln_6⟩ := hS.call [] (by decide) rfl (l' := []) (ow := [_, _]) rfl hS'
        replace hS : Sep w0 w_26 [N_19, _, _, _, _, _, _, _, _, _, _, _, _] Z := hS''
        refine mv h rfl fun a h=>s_extract h rfl rfl rfl fun a h=>s_extract h rfl rfl rfl fun a h=>s_fieldAddr h rfl U32 rfl ti28 rfl rfl fun a h=>?_
        refine sto 1 h rfl rfl hS rfl ti28 (hr_10.mono ln_6).cellsA rfl rfl (oc (hr_10.mono ln_6).one on0) fun w_27 hS' => ?_
        replace hS : Sep w0 w_27 [_, bx g_1 32 [_, v_18, _, _], _, _, _, _, _, _, _, _, _, _, _] Z := hS'
        refine sto 10 h rfl rfl hS rfl ti91 rfl rfl rfl (oa 1 rfl (oc hr_11.one (oz rfl))) fun w_28 hS' => ?_
        replace hS : Sep w0 w_28 [_, _, _, _, _, _, _, _, _, _, bx g_5 91 (E91 t_10.2 v_19), _, _] Z := hS'
        refine wpList_nil <| x_block_n ?_
        obtain ⟨N_20, hS', le_14, lo_5⟩ := hS.freeze 11 rfl
        replace hS : Sep w0 w_28 [N_20, _, _, _, _, _, _, _, _, _, _, _, Mem.no] Z := hS'
        exact x_then_n (hJ_j_2 (⟨t_1, t_10.1, t_3, t_4⟩ : api_Objects) t_10.2 H _ _ ⟨v_1, v_18, v_3, v_4, v_19, N_20, M_1, M_17, M_3, M_4, (h.to rfl), (hS.sel [0, 1, 1001, 3, 4, 1004, 1005, 1006, 1007, 1008, 10, 5, 11, 7, 8] (by decide)), (le_13.trans le_14), ho_1, ((hr_10.mono ln_6).mono le_14), ho_3, (ho_4.mono (le_2.trans (le_3.trans (le_13.trans le_14)))), (hr_11.rd lo_5 (Mem.no_le _))⟩)
       ·refine c_cond_f h rfl (bf hc_5) <| qr <| s_cmp (b := (x1.Kind == 6)) h rfl rfl rfl (.inl ⟨rfl, rfl⟩) fun a h=>sg h rfl fun a h=>wpList_nil <| x_then_n ?_
        obtain ⟨hc_6, H⟩ | ⟨hc_6, H⟩ := ii H
        ·refine c_cond_t h rfl (bt hc_6) <| qr <| mv h rfl fun a h=>wpList_nil <| x_then_n ?_
         obtain ⟨hc_7, H⟩ | ⟨hc_7, H⟩ := ii H
         ·refine c_cond_t h rfl hc_7 <| wp_region_lit <| s_fieldAddr h rfl U32 rfl ti29 rfl rfl fun a h=>s_load h rfl rfl (hS.load_one (p := 1) rfl U29 rfl rfl) fun a h=>s_fieldAddr h rfl U24 rfl ti3 rfl rfl fun a h=>s_load h rfl rfl (hS.load_one (p := 2) rfl U3 rfl rfl) fun a h=>?_
          obtain ⟨t_11, et_11, H⟩ := bs H
          refine s_call h rfl Try.call109 rfl (hocketref4_Take.calls K t_3 _ x1.Who t_11 w0 _ _ _ mr (hS.enter [] (by decide)) (ho_3.rd (hS.own_zed [] 6 (by decide)) (Mem.no_le _)) et_11) ?_
          rintro _ w_29 ⟨v_20, v_21, N_21, M_19, M_20, rfl, hS', hr_12, hr_13⟩
          intro a h
          obtain ⟨N_22, hS'', le_15, ln_7⟩ := hS.call [] (by decide) rfl (l' := []) (ow := [_, _]) rfl hS'
          replace hS : Sep w0 w_29 [N_22, _, _, _, _, _, _, _, _, _, _, _, _] Z := hS''
          refine mv h rfl fun a h=>s_extract h rfl rfl rfl fun a h=>s_extract h rfl rfl rfl fun a h=>s_fieldAddr h rfl U32 rfl ti29 rfl rfl fun a h=>?_
          refine sto 1 h rfl rfl hS rfl ti29 hr_12.cellsA rfl rfl (oc hr_12.one on0) fun w_30 hS' => ?_
          replace hS : Sep w0 w_30 [_, bx g_1 32 [_, _, v_20, _], _, _, _, _, _, _, _, _, _, _, _] Z := hS'
          refine sto 10 h rfl rfl hS rfl ti91 rfl rfl rfl (oa 1 rfl (oc hr_13.one (oz rfl))) fun w_31 hS' => ?_
          replace hS : Sep w0 w_31 [_, _, _, _, _, _, _, _, _, _, bx g_5 91 (E91 t_11.2 v_21), _, _] Z := hS'
          refine wpList_nil ?_
          replace h : Fr 144 a [(2, _), (4, _), (5, _), (6, _)] := h.keep [2, 4, 5, 6]
          refine x_block_n ?_
          obtain ⟨N_23, hS', le_16, lo_6⟩ := hS.freeze 11 rfl
          replace hS : Sep w0 w_31 [N_23, _, _, _, _, _, _, _, _, _, _, _, Mem.no] Z := hS'
          exact x_then_n (hJ_j_2 (⟨t_1, t_2, t_11.1, t_4⟩ : api_Objects) t_11.2 H _ _ ⟨v_1, v_2, v_20, v_4, v_21, N_23, M_1, M_2, M_19, M_4, (h.to rfl), (hS.sel [0, 1, 1001, 3, 4, 1004, 1005, 1006, 1007, 1008, 10, 5, 6, 11, 8] (by decide)), (le_15.trans le_16), ho_1, (ho_2.mono (le_2.trans (le_3.trans (le_15.trans le_16)))), hr_12, (ho_4.mono (le_2.trans (le_3.trans (le_15.trans le_16)))), (hr_13.rd lo_6 (Mem.no_le _))⟩)
         ·refine c_cond_f h rfl (ef hc_7) <| wp_skip <| x_block_n ?_
          obtain ⟨N_24, hS', le_17, lo_7⟩ := hS.freeze 8 rfl
          replace hS : Sep w0 w_10 [N_24, _, _, _, _, _, _, _, _, Mem.no, _] Z := hS'
          exact x_then_n (hJ_j_2 (⟨t_1, t_2, t_3, t_4⟩ : api_Objects) t_5 H _ _ ⟨v_1, v_2, v_3, v_4, v_5, N_24, M_1, M_2, M_3, M_4, (h.to rfl), (hS.sel [0, 1, 1001, 3, 4, 1004, 1005, 1006, 1007, 1008, 10, 5, 6, 7, 8] (by decide)), le_17, ho_1, (ho_2.mono (le_2.trans (le_3.trans le_17))), ho_3, (ho_4.mono (le_2.trans (le_3.trans le_17))), (hr_1.rd lo_7 (Mem.no_le _))⟩)
        ·refine c_cond_f h rfl (bf hc_6) <| qr <| s_cmp (b := (x1.Kind == 7)) h rfl rfl rfl (.inl ⟨rfl, rfl⟩) fun a h=>sg h rfl fun a h=>wpList_nil <| x_then_n ?_
         obtain ⟨hc_8, H⟩ | ⟨hc_8, H⟩ := ii H
         ·refine c_cond_t h rfl (bt hc_8) <| qr <| mv h rfl fun a h=>wpList_nil ?_
          replace h : Fr 144 a [(2, _), (3, _), (4, _), (5, _), (6, _), (96, .bool x_1)] := h.keep [2, 3, 4, 5, 6, 96]
          refine x_then_n ?_
          obtain ⟨hc_9, H⟩ | ⟨hc_9, H⟩ := ii H
          ·refine c_cond_t h rfl hc_9 <| wp_region_lit <| s_fieldAddr h rfl U32 rfl ti29 rfl rfl fun a h=>s_load h rfl rfl (hS.load_one (p := 1) rfl U29 rfl rfl) fun a h=>s_fieldAddr h rfl U24 rfl ti3 rfl rfl fun a h=>s_load h rfl rfl (hS.load_one (p := 2) rfl U3 rfl rfl) fun a h=>?_
           obtain ⟨t_12, et_12, H⟩ := bs H
           refine s_call h rfl Try.call110 rfl (hocketref4_Free.calls K t_3 _ x1.Who t_12 w0 _ _ _ mr (hS.enter [] (by decide)) (ho_3.rd (hS.own_zed [] 6 (by decide)) (Mem.no_le _)) et_12) ?_
           rintro _ w_32 ⟨v_22, v_23, N_25, M_21, M_22, rfl, hS', hr_14, hr_15⟩
           intro a h
           obtain ⟨N_26, hS'', le_18, ln_8⟩ := hS.call [] (by decide) rfl (l' := []) (ow := [_, _]) rfl hS'
           replace hS : Sep w0 w_32 [N_26, _, _, _, _, _, _, _, _, _, _, _, _] Z := hS''
           refine mv h rfl fun a h=>s_extract h rfl rfl rfl fun a h=>s_extract h rfl rfl rfl fun a h=>s_fieldAddr h rfl U32 rfl ti29 rfl rfl fun a h=>?_
           refine sto 1 h rfl rfl hS rfl ti29 hr_14.cellsA rfl rfl (oc hr_14.one on0) fun w_33 hS' => ?_
           replace hS : Sep w0 w_33 [_, bx g_1 32 [_, _, v_22, _], _, _, _, _, _, _, _, _, _, _, _] Z := hS'
           refine sto 10 h rfl rfl hS rfl ti91 rfl rfl rfl (oa 1 rfl (oc hr_15.one (oz rfl))) fun w_34 hS' => ?_
           replace hS : Sep w0 w_34 [_, _, _, _, _, _, _, _, _, _, bx g_5 91 (E91 t_12.2 v_23), _, _] Z := hS'
           refine wpList_nil <| x_block_n ?_
           obtain ⟨N_27, hS', le_19, lo_8⟩ := hS.freeze 11 rfl
           replace hS : Sep w0 w_34 [N_27, _, _, _, _, _, _, _, _, _, _, _, Mem.no] Z := hS'
           exact x_then_n (hJ_j_2 (⟨t_1, t_2, t_12.1, t_4⟩ : api_Objects) t_12.2 H _ _ ⟨v_1, v_2, v_22, v_4, v_23, N_27, M_1, M_2, M_21, M_4, (h.to rfl), (hS.sel [0, 1, 1001, 3, 4, 1004, 1005, 1006, 1007, 1008, 10, 5, 6, 11, 8] (by decide)), (le_18.trans le_19), ho_1, (ho_2.mono (le_2.trans (le_3.trans (le_18.trans le_19)))), hr_14, (ho_4.mono (le_2.trans (le_3.trans (le_18.trans le_19)))), (hr_15.rd lo_8 (Mem.no_le _))⟩)
          ·refine c_cond_f h rfl (ef hc_9) <| wp_skip <| x_block_n ?_
           obtain ⟨N_28, hS', le_20, lo_9⟩ := hS.freeze 8 rfl
           replace hS : Sep w0 w_10 [N_28, _, _, _, _, _, _, _, _, Mem.no, _] Z := hS'
           exact x_then_n (hJ_j_2 (⟨t_1, t_2, t_3, t_4⟩ : api_Objects) t_5 H _ _ ⟨v_1, v_2, v_3, v_4, v_5, N_28, M_1, M_2, M_3, M_4, (h.to rfl), (hS.sel [0, 1, 1001, 3, 4, 1004, 1005, 1006, 1007, 1008, 10, 5, 6, 7, 8] (by decide)), le_20, ho_1, (ho_2.mono (le_2.trans (le_3.trans le_20))), ho_3, (ho_4.mono (le_2.trans (le_3.trans le_20))), (hr_1.rd lo_9 (Mem.no_le _))⟩)
         ·refine c_cond_f h rfl (bf hc_8) <| qr <| s_cmp (b := (x1.Kind == 8)) h rfl rfl rfl (.inl ⟨rfl, rfl⟩) fun a h=>sg h rfl fun a h=>wpList_nil ?_
          replace h : Fr 144 a [(2, _), (3, _), (4, _), (5, _), (6, _), (32, _), (106, .bool (x1.Kind == 8))] := h.keep [2, 3, 4, 5, 6, 32, 106]
          refine x_then_n ?_
          obtain ⟨hc_10, H⟩ | ⟨hc_10, H⟩ := ii H
          ·refine c_cond_t h rfl (bt hc_10) <| wp_region_lit <| s_fieldAddr h rfl U32 rfl ti29 rfl rfl fun a h=>s_load h rfl rfl (hS.load_one (p := 1) rfl U29 rfl rfl) fun a h=>?_
           obtain ⟨t_13, et_13, H⟩ := bs H
           refine s_call h rfl Try.call111 rfl (hocketref4_Owner.calls t_3 _ t_13 w0 _ _ _ mr (hS.enter [] (by decide)) (ho_3.rd (hS.own_zed [] 6 (by decide)) (Mem.no_le _)) et_13) ?_
           rintro _ w_35 ⟨v_24, N_29, M_23, rfl, hS', hr_16⟩
           intro a h
           obtain ⟨N_30, hS'', le_21, ln_9⟩ := hS.call [] (by decide) rfl (l' := []) (ow := [_]) rfl hS'
           replace hS : Sep w0 w_35 [N_30, _, _, _, _, _, _, _, _, _, _, _] Z := hS''
           refine sto 10 h rfl rfl hS rfl ti91 rfl rfl rfl (oa 1 rfl (oc hr_16.one (oz rfl))) fun w_36 hS' => ?_
           replace hS : Sep w0 w_36 [_, _, _, _, _, _, _, _, _, _, bx g_5 91 (E91 t_13 v_24), _] Z := hS'
           refine wpList_nil <| x_block_n ?_
           obtain ⟨N_31, hS', le_22, lo_10⟩ := hS.freeze 10 rfl
           replace hS : Sep w0 w_36 [N_31, _, _, _, _, _, _, _, _, _, _, Mem.no] Z := hS'
           exact x_then_n (hJ_j_2 (⟨t_1, t_2, t_3, t_4⟩ : api_Objects) t_13 H _ _ ⟨v_1, v_2, v_3, v_4, v_24, N_31, M_1, M_2, M_3, M_4, (h.to rfl), (hS.sel [0, 1, 1001, 3, 4, 1004, 1005, 1006, 1007, 1008, 10, 5, 6, 7, 8] (by decide)), (le_21.trans le_22), ho_1, (ho_2.mono (le_2.trans (le_3.trans (le_21.trans le_22)))), ho_3, (ho_4.mono (le_2.trans (le_3.trans (le_21.trans le_22)))), (hr_16.rd lo_10 (Mem.no_le _))⟩)
          ·refine c_cond_f h rfl (bf hc_10) <| qr <| s_cmp (b := (x1.Kind == 9)) h rfl rfl rfl (.inl ⟨rfl, rfl⟩) fun a h=>sg h rfl fun a h=>wpList_nil <| x_then_n ?_
           obtain ⟨hc_11, H⟩ | ⟨hc_11, H⟩ := ii H
           ·refine c_cond_t h rfl (bt hc_11) <| wp_region_lit <| s_fieldAddr h rfl U32 rfl ti30 rfl rfl fun a h=>s_load h rfl rfl (hS.load_one (p := 1) rfl U30 rfl rfl) fun a h=>s_fieldAddr h rfl U24 rfl ti22 rfl rfl fun a h=>s_load h rfl rfl (hS.load_one (p := 2) rfl U22 rfl rfl) fun a h=>s_fieldAddr h rfl U24 rfl ti22 rfl rfl fun a h=>s_load h rfl rfl (hS.load_one (p := 2) rfl U22 rfl rfl) fun a h=>?_
            obtain ⟨t_14, et_14, H⟩ := bs H
            refine s_call h rfl Try.call112 rfl (hocketref4_Put.calls K t_4 _ x1.Key _ x1.Val _ t_14 w0 _ _ _ mr (hS.enter [] (by decide)) (ho_4.rd (hS.own_zed [] 7 (by decide)) ((le_2.trans le_3).trans (hS.new_zed []))) (hp1_4.mono (hA.trans (hS.le_zed []))) (hp1_5.mono (hA.trans (hS.le_zed []))) et_14) ?_
            rintro _ w_37 ⟨v_25, v_26, N_32, M_24, rfl, hS', hr_17, hr_18⟩
            intro a h
            obtain ⟨N_33, hS'', le_23, ln_10⟩ := hS.call [] (by decide) rfl (l' := []) (ow := [_]) rfl hS'
            replace hS : Sep w0 w_37 [N_33, _, _, _, _, _, _, _, _, _, _, _] Z := hS''
            refine mv h rfl fun a h=>s_extract h rfl rfl rfl fun a h=>s_extract h rfl rfl rfl fun a h=>s_fieldAddr h rfl U32 rfl ti30 rfl rfl fun a h=>?_
            refine sto 1 h rfl rfl hS rfl ti30 (hr_17.mono ln_10).cellsA rfl rfl (oc (hr_17.mono ln_10).one on0) fun w_38 hS' => ?_
            replace hS : Sep w0 w_38 [_, bx g_1 32 [_, _, _, v_25], _, _, _, _, _, _, _, _, _, _] Z := hS'
            refine sto 10 h rfl rfl hS rfl ti91 rfl rfl rfl (oa 1 rfl (oc (hr_18.mono ln_10).one (oz rfl))) fun w_39 hS' => ?_
            replace hS : Sep w0 w_39 [_, _, _, _, _, _, _, _, _, _, bx g_5 91 (E91 t_14.2 v_26), _] Z := hS'
            refine wpList_nil <| x_block_n ?_
            exact x_then_n (hJ_j_2 (⟨t_1, t_2, t_3, t_14.1⟩ : api_Objects) t_14.2 H _ _ ⟨v_1, v_2, v_3, v_25, v_26, N_33, M_1, M_2, M_3, M_24, (h.to rfl), (hS.sel [0, 1, 1001, 3, 4, 1004, 1005, 1006, 1007, 1008, 10, 5, 6, 7, 11] (by decide)), le_23, ho_1, (ho_2.mono (le_2.trans (le_3.trans le_23))), ho_3, ((hr_17.mono ln_10).mono mr), (hr_18.mono ln_10)⟩)
           ·refine c_cond_f h rfl (bf hc_11) <| qr <| s_cmp (b := (x1.Kind == 10)) h rfl rfl rfl (.inl ⟨rfl, rfl⟩) fun a h=>sg h rfl fun a h=>wpList_nil <| x_then_n ?_
            obtain ⟨hc_12, H⟩ | ⟨hc_12, H⟩ := ii H
            ·refine c_cond_t h rfl (bt hc_12) <| wp_region_lit <| s_fieldAddr h rfl U32 rfl ti30 rfl rfl fun a h=>s_load h rfl rfl (hS.load_one (p := 1) rfl U30 rfl rfl) fun a h=>s_fieldAddr h rfl U24 rfl ti22 rfl rfl fun a h=>s_load h rfl rfl (hS.load_one (p := 2) rfl U22 rfl rfl) fun a h=>?_
             obtain ⟨t_15, et_15, H⟩ := bs H
             refine s_call h rfl Try.call113 rfl (hocketref4_Get.calls K t_4 _ x1.Key _ t_15 w0 _ _ _ mr (hS.enter [] (by decide)) (ho_4.rd (hS.own_zed [] 7 (by decide)) ((le_2.trans le_3).trans (hS.new_zed []))) (hp1_4.mono (hA.trans (hS.le_zed []))) et_15) ?_
             rintro _ w_40 ⟨v_27, N_34, M_25, rfl, hS', hr_19⟩
             intro a h
             obtain ⟨N_35, hS'', le_24, ln_11⟩ := hS.call [] (by decide) rfl (l' := []) (ow := [_]) rfl hS'
             replace hS : Sep w0 w_40 [N_35, _, _, _, _, _, _, _, _, _, _, _] Z := hS''
             refine sto 10 h rfl rfl hS rfl ti91 rfl rfl rfl (oa 1 rfl (oc hr_19.one (oz rfl))) fun w_41 hS' => ?_
             replace hS : Sep w0 w_41 [_, _, _, _, _, _, _, _, _, _, bx g_5 91 (E91 t_15 v_27), _] Z := hS'
             refine wpList_nil <| x_block_n ?_
             obtain ⟨N_36, hS', le_25, lo_11⟩ := hS.freeze 10 rfl
             replace hS : Sep w0 w_41 [N_36, _, _, _, _, _, _, _, _, _, _, Mem.no] Z := hS'
             exact x_then_n (hJ_j_2 (⟨t_1, t_2, t_3, t_4⟩ : api_Objects) t_15 H _ _ ⟨v_1, v_2, v_3, v_4, v_27, N_36, M_1, M_2, M_3, M_4, (h.to rfl), (hS.sel [0, 1, 1001, 3, 4, 1004, 1005, 1006, 1007, 1008, 10, 5, 6, 7, 8] (by decide)), (le_24.trans le_25), ho_1, (ho_2.mono (le_2.trans (le_3.trans (le_24.trans le_25)))), ho_3, (ho_4.mono (le_2.trans (le_3.trans (le_24.trans le_25)))), (hr_19.rd lo_11 (Mem.no_le _))⟩)
            ·refine c_cond_f h rfl (bf hc_12) <| qr <| s_cmp (b := (x1.Kind == 11)) h rfl rfl rfl (.inl ⟨rfl, rfl⟩) fun a h=>sg h rfl fun a h=>wpList_nil <| x_then_n ?_
             obtain ⟨hc_13, H⟩ | ⟨hc_13, H⟩ := ii H
             ·refine c_cond_t h rfl (bt hc_13) <| wp_region_lit <| s_fieldAddr h rfl U32 rfl ti30 rfl rfl fun a h=>s_load h rfl rfl (hS.load_one (p := 1) rfl U30 rfl rfl) fun a h=>s_fieldAddr h rfl U24 rfl ti22 rfl rfl fun a h=>s_load h rfl rfl (hS.load_one (p := 2) rfl U22 rfl rfl) fun a h=>?_
              obtain ⟨t_16, et_16, H⟩ := bs H
              refine s_call h rfl Try.call114 rfl (hocketref4_Del.calls K t_4 _ x1.Key _ t_16 w0 _ _ _ mr (hS.enter [] (by decide)) (ho_4.rd (hS.own_zed [] 7 (by decide)) ((le_2.trans le_3).trans (hS.new_zed []))) (hp1_4.mono (hA.trans (hS.le_zed []))) et_16) ?_
              rintro _ w_42 ⟨v_28, v_29, N_37, M_26, rfl, hS', hr_20, hr_21⟩
              intro a h
              obtain ⟨N_38, hS'', le_26, ln_12⟩ := hS.call [] (by decide) rfl (l' := []) (ow := [_]) rfl hS'
              replace hS : Sep w0 w_42 [N_38, _, _, _, _, _, _, _, _, _, _, _] Z := hS''
              refine mv h rfl fun a h=>s_extract h rfl rfl rfl fun a h=>s_extract h rfl rfl rfl fun a h=>s_fieldAddr h rfl U32 rfl ti30 rfl rfl fun a h=>?_
              refine sto 1 h rfl rfl hS rfl ti30 (hr_20.mono ln_12).cellsA rfl rfl (oc (hr_20.mono ln_12).one on0) fun w_43 hS' => ?_
              replace hS : Sep w0 w_43 [_, bx g_1 32 [_, _, _, v_28], _, _, _, _, _, _, _, _, _, _] Z := hS'
              refine sto 10 h rfl rfl hS rfl ti91 rfl rfl rfl (oa 1 rfl (oc (hr_21.mono ln_12).one (oz rfl))) fun w_44 hS' => ?_
              replace hS : Sep w0 w_44 [_, _, _, _, _, _, _, _, _, _, bx g_5 91 (E91 t_16.2 v_29), _] Z := hS'
              refine wpList_nil ?_
              replace h : Fr 144 a [(2, _), (4, _), (5, _), (6, _)] := h.keep [2, 4, 5, 6]
              refine x_block_n ?_
              exact x_then_n (hJ_j_2 (⟨t_1, t_2, t_3, t_16.1⟩ : api_Objects) t_16.2 H _ _ ⟨v_1, v_2, v_3, v_28, v_29, N_38, M_1, M_2, M_3, M_26, (h.to rfl), (hS.sel [0, 1, 1001, 3, 4, 1004, 1005, 1006, 1007, 1008, 10, 5, 6, 7, 11] (by decide)), le_26, ho_1, (ho_2.mono (le_2.trans (le_3.trans le_26))), ho_3, ((hr_20.mono ln_12).mono mr), (hr_21.mono ln_12)⟩)
             ·refine c_cond_f h rfl (bf hc_13) <| wp_skip <| x_block_n ?_
              obtain ⟨N_39, hS', le_27, lo_12⟩ := hS.freeze 8 rfl
              replace hS : Sep w0 w_10 [N_39, _, _, _, _, _, _, _, _, Mem.no, _] Z := hS'
              exact x_then_n (hJ_j_2 (⟨t_1, t_2, t_3, t_4⟩ : api_Objects) t_5 H _ _ ⟨v_1, v_2, v_3, v_4, v_5, N_39, M_1, M_2, M_3, M_4, (h.to rfl), (hS.sel [0, 1, 1001, 3, 4, 1004, 1005, 1006, 1007, 1008, 10, 5, 6, 7, 8] (by decide)), le_27, ho_1, (ho_2.mono (le_2.trans (le_3.trans le_27))), ho_3, (ho_4.mono (le_2.trans (le_3.trans le_27))), (hr_1.rd lo_12 (Mem.no_le _))⟩)
  clear hKJ_2
  refine wp_region_lit <| s_fieldAddr h rfl U24 rfl ti3 rfl rfl fun a h=>s_load h rfl rfl (hS.load_one (p := 2) rfl U3 rfl rfl) fun a h=>s_cmp (b := decide (x1.Who ≥ 0)) h rfl rfl rfl (.inr (.inr (.inr (.inr (.inr ⟨rfl, rfl⟩))))) fun a h=>mv h rfl fun a h=>?_
  obtain ⟨hc_14, H⟩ | ⟨hc_14, H⟩ := ii H
  ·refine s_on h rfl rfl (dt hc_14) <| s_fieldAddr h rfl U24 rfl ti3 rfl rfl fun a h=>s_on h rfl rfl (dt hc_14) <| s_load h rfl rfl (hS.load_one (p := 2) rfl U3 rfl rfl) fun a h=>s_on h rfl rfl (dt hc_14) <| s_cmp (b := decide (x1.Who ≤ 999)) h rfl rfl rfl (.inr (.inr (.inr (.inl ⟨rfl, rfl⟩)))) fun a h=>pt h rfl (dt hc_14) fun a h=>sg h rfl fun a h=>wpList_nil ?_
   replace h : Fr 144 a [(2, _), (3, _), (4, _), (5, _), (6, .pointer (some ⟨g_5, 0, none⟩)), (7, .bool (decide (x1.Who ≤ 999)))] := h.keep [2, 3, 4, 5, 6, 7]
   exact x_then_n (hJ_j_1 (decide (x1.Who ≤ 999)) H _ _ ⟨N_3, (h.to rfl), (hS.sel [0, 1, 2, 3, 4, 5, 6, 7, 8, 9, 10] (by decide)), mr⟩)
  ·refine of h rfl rfl (df hc_14) fun a h=>of h rfl rfl (df hc_14) fun a h=>of h rfl rfl (df hc_14) fun a h=>pf h rfl (df hc_14) fun a h=>sg h rfl fun a h=>wpList_nil ?_
   replace h : Fr 144 a [(2, _), (3, _), (4, _), (5, _), (6, .pointer (some ⟨g_5, 0, none⟩)), (7, .bool false)] := h.keep [2, 3, 4, 5, 6, 7]
   exact x_then_n (hJ_j_1 false H _ _ ⟨N_3, (h.to rfl), (hS.sel [0, 1, 2, 3, 4, 5, 6, 7, 8, 9, 10] (by decide)), mr⟩)
 have hD_2 : ∀ (a : Act) (w_45 : World), (∃ (v_30 : Value) (v_31 : Value) (v_32 : Value) (v_33 : Value) (N_40 : Mem) (M_27 : Mem) (M_28 : Mem) (M_29 : Mem) (M_30 : Mem), Fr 144 a [(2, .pointer (some ⟨g_1, 0, none⟩)), (3, .pointer (some ⟨g_2, 0, none⟩)), (4, .pointer (some ⟨g_3, 0, none⟩)), (5, .pointer (some ⟨g_4, 0, none⟩)), (21, .agg ([v_30, v_31, v_32, v_33] : List Value).toArray)] ∧ Sep w0 w_45 [N_40, bx g_1 32 [p0_0, p0_1, p0_2, p0_3], bx g_2 24 (E24 x1 p1_4 p1_5 p1_6), bx g_3 32 [nS, nS, nS, nS], bx g_4 91 [iV 0, nS, iV 0], M_27, M_28, M_29, M_30] Z ∧ Mem.no.le N_40 ∧ Own Kd.u8 5 M_27 Mem.no v_30 t_1 ∧ Own (Kd.slice Kd.u8) 22 M_28 N_40 v_31 t_2 ∧ Own (Kd.int .i64) 3 M_29 Mem.no v_32 t_3 ∧ Own k_api_Pair 88 M_30 N_40 v_33 t_4) → GD_1 1 (bA 15 16383) a w_45 := by
  rintro a w_45 ⟨v_30, v_31, v_32, v_33, N_40, M_27, M_28, M_29, M_30, h, hS, le_28, ho_9, ho_10, ho_11, ho_12⟩
  refine (hGD_1 _ _ _ _).2 <| h_events [14] (by kernel_rfl) (by simp) ?_
  intro i hi; simp only [List.mem_cons, List.not_mem_nil, or_false] at hi; rcases hi with rfl
  refine ⟨_, (bA 15 32767), rfl, by kernel_rfl, ?_⟩
  refine sto 1 h rfl rfl hS rfl ti32 rfl rfl rfl (oc ho_9.one (oc ho_10.one (oc ho_11.one (oc ho_12.one on0)))) fun w_46 hS' => ?_
  replace hS : Sep w0 w_46 [_, bx g_1 32 [v_30, v_31, v_32, v_33], _, _, _, _, _, _, _] Z := hS'
  refine ne (hS.sub (.cons le_28 (.zz (.rr (.rr (.rr .nn)))))) fun hs => ?_
  exact (hGD_1 _ _ _ _).1 (hD_1 _ _ ⟨v_30, v_31, v_32, v_33, N_40, M_27, M_28, M_29, M_30, (h.to rfl), (hS.sel [0, 1, 2, 3, 4, 5, 6, 7, 8] (by decide)), le_28, ho_9, (ho_10.mono mr), ho_11, (ho_12.mono mr)⟩)
 have hD_3 : ∀ (a : Act) (w_47 : World), (∃ (v_34 : Value) (v_35 : Value) (v_36 : Value) (N_41 : Mem) (M_31 : Mem) (M_32 : Mem) (M_33 : Mem), Fr 144 a [(2, .pointer (some ⟨g_1, 0, none⟩)), (3, .pointer (some ⟨g_2, 0, none⟩)), (4, .pointer (some ⟨g_3, 0, none⟩)), (5, .pointer (some ⟨g_4, 0, none⟩)), (10, v_34), (13, v_35), (17, v_36), (19, p0_3)] ∧ Sep w0 w_47 [N_41, bx g_1 32 [p0_0, p0_1, p0_2, p0_3], bx g_2 24 (E24 x1 p1_4 p1_5 p1_6), bx g_3 32 [nS, nS, nS, nS], bx g_4 91 [iV 0, nS, iV 0], M_31, M_32, M_33] Z ∧ Mem.no.le N_41 ∧ Own Kd.u8 5 M_31 Mem.no v_34 t_1 ∧ Own (Kd.slice Kd.u8) 22 M_32 N_41 v_35 t_2 ∧ Own (Kd.int .i64) 3 M_33 Mem.no v_36 t_3) → GD_1 3 (bA 15 4095) a w_47 := by
  rintro a w_47 ⟨v_34, v_35, v_36, N_41, M_31, M_32, M_33, h, hS, le_29, ho_13, ho_14, ho_15⟩
  refine (hGD_1 _ _ _ _).2 <| h_events [12] (by kernel_rfl) (by simp) ?_
  intro i hi; simp only [List.mem_cons, List.not_mem_nil, or_false] at hi; rcases hi with rfl
  refine ⟨_, (bA 15 8191), rfl, by kernel_rfl, ?_⟩
  refine s_call h rfl Try.call103 rfl (hocketref4_pairs.calls K x0.Map _ t_4 w0 _ _ _ mr (hS.enter [] (by decide)) (hp0_3.mono (hA.trans (hS.le_zed []))) et_4) ?_
  rintro v_37 w_48 ⟨_, N_42, M_34, rfl, hS', hr_22⟩
  intro a h
  obtain ⟨N_43, hS'', le_30, ln_13⟩ := hS.call [] (by decide) rfl (l' := []) (ow := [_]) rfl hS'
  replace hS : Sep w0 w_48 [N_43, _, _, _, _, _, _, _, _] Z := hS''
  refine ne (hS.sub (.cons (le_29.trans le_30) (.zz (.rr (.rr (.rr .nn)))))) fun hs => ?_
  refine t_take 13 (bA 15 16383) rfl rfl rfl rfl h hs (v := .agg ([v_34, v_35, v_36, v_37] : List Value).toArray) (fun w hS => r_build h ti32 pl32 rfl (.cons ho_13.cells (.cons ho_14.cells (.cons ho_15.cells (.cons (hr_22.mono ln_13).cells .nil)))) (cs := [v_34, v_35, v_36, v_37]) (by kernel_rfl)) fun a h=>?_
  exact (hGD_1 _ _ _ _).1 (hD_2 _ _ ⟨v_34, v_35, v_36, v_37, N_43, M_31, M_32, M_33, M_34, (h.to rfl), (hS.sel [0, 1, 2, 3, 4, 5, 6, 7, 8] (by decide)), (le_29.trans le_30), ho_13, (ho_14.mono le_30), ho_15, ((hr_22.mono ln_13).mono mr)⟩)
 have hD_4 : ∀ (a : Act) (w_49 : World), (∃ (v_38 : Value) (v_39 : Value) (v_40 : Value) (N_44 : Mem) (M_35 : Mem) (M_36 : Mem) (M_37 : Mem), Fr 144 a [(2, .pointer (some ⟨g_1, 0, none⟩)), (3, .pointer (some ⟨g_2, 0, none⟩)), (4, .pointer (some ⟨g_3, 0, none⟩)), (5, .pointer (some ⟨g_4, 0, none⟩)), (10, v_38), (13, v_39), (17, v_40), (18, .pointer (some ⟨g_1, 3, none⟩))] ∧ Sep w0 w_49 [N_44, bx g_1 32 [p0_0, p0_1, p0_2, p0_3], bx g_2 24 (E24 x1 p1_4 p1_5 p1_6), bx g_3 32 [nS, nS, nS, nS], bx g_4 91 [iV 0, nS, iV 0], M_35, M_36, M_37] Z ∧ Mem.no.le N_44 ∧ Own Kd.u8 5 M_35 Mem.no v_38 t_1 ∧ Own (Kd.slice Kd.u8) 22 M_36 N_44 v_39 t_2 ∧ Own (Kd.int .i64) 3 M_37 Mem.no v_40 t_3) → GD_1 4 (bA 15 2047) a w_49 := by
  rintro a w_49 ⟨v_38, v_39, v_40, N_44, M_35, M_36, M_37, h, hS, le_31, ho_16, ho_17, ho_18⟩
  refine (hGD_1 _ _ _ _).2 <| h_events [11] (by kernel_rfl) (by simp) ?_
  intro i hi; simp only [List.mem_cons, List.not_mem_nil, or_false] at hi; rcases hi with rfl
  refine ⟨_, (bA 15 4095), rfl, by kernel_rfl, ?_⟩
  refine s_load h rfl rfl (hS.load_one (p := 1) rfl U30 rfl rfl) fun a h=>wpList_nil <| x_then_n ⟨(hS.sub (.cons le_31 (.zz (.rr (.rr (.rr .nn)))))), ?_⟩
  exact (hGD_1 _ _ _ _).1 (hD_3 _ _ ⟨v_38, v_39, v_40, N_44, M_35, M_36, M_37, (h.to rfl), (hS.sel [0, 1, 2, 3, 4, 5, 6, 7] (by decide)), le_31, ho_16, (ho_17.mono mr), ho_18⟩)
 have hD_5 : ∀ (a : Act) (w_50 : World), (∃ (v_41 : Value) (v_42 : Value) (v_43 : Value) (N_45 : Mem) (M_38 : Mem) (M_39 : Mem) (M_40 : Mem), Fr 144 a [(2, .pointer (some ⟨g_1, 0, none⟩)), (3, .pointer (some ⟨g_2, 0, none⟩)), (4, .pointer (some ⟨g_3, 0, none⟩)), (5, .pointer (some ⟨g_4, 0, none⟩)), (10, v_41), (13, v_42), (14, v_43), (16, p0_2), (19, p0_3)] ∧ Sep w0 w_50 [N_45, bx g_1 32 [p0_0, p0_1, p0_2, p0_3], bx g_2 24 (E24 x1 p1_4 p1_5 p1_6), bx g_3 32 [nS, nS, nS, nS], bx g_4 91 [iV 0, nS, iV 0], M_38, M_39, M_40] Z ∧ Mem.no.le N_45 ∧ Own Kd.u8 5 M_38 Mem.no v_41 t_1 ∧ Own (Kd.slice Kd.u8) 22 M_39 N_45 v_42 t_2 ∧ Own (Kd.int .i64) 3 M_40 Mem.no v_43 ([] : List Int)) → GD_1 4 (bA 15 3583) a w_50 := by
  rintro a w_50 ⟨v_41, v_42, v_43, N_45, M_38, M_39, M_40, h, hS, le_32, ho_19, ho_20, ho_21⟩
  refine (hGD_1 _ _ _ _).2 <| h_events [9] (by kernel_rfl) (by simp) ?_
  intro i hi; simp only [List.mem_cons, List.not_mem_nil, or_false] at hi; rcases hi with rfl
  refine ⟨_, (bA 15 4095), rfl, by kernel_rfl, ?_⟩
  refine s_append (J := Mem.no) (I' := Mem.no) (p := 7) 17592186044416 h rfl rfl rfl U29 ti3 rfl rfl rfl rfl hS rfl ho_21 (Src.flat (flat_int .i64) (hp0_2.src (hA.trans hS.old))) mr mr et_3 fun w_51 v_44 M_41 hS' ho_22 a h => ?_
  replace hS : Sep w0 w_51 [_, _, _, _, _, _, _, M_41] Z := hS'
  refine ne (hS.sub (.cons le_32 (.zz (.rr (.rr (.rr .nn)))))) fun hs => ?_
  exact (hGD_1 _ _ _ _).1 (hD_3 _ _ ⟨v_41, v_42, v_44, N_45, M_38, M_39, M_41, (h.to rfl), (hS.sel [0, 1, 2, 3, 4, 5, 6, 7] (by decide)), le_32, ho_19, (ho_20.mono mr), ho_22⟩)
 have hD_6 : ∀ (a : Act) (w_52 : World), (∃ (v_45 : Value) (v_46 : Value) (v_47 : Value) (N_46 : Mem) (M_42 : Mem) (M_43 : Mem) (M_44 : Mem), Fr 144 a [(2, .pointer (some ⟨g_1, 0, none⟩)), (3, .pointer (some ⟨g_2, 0, none⟩)), (4, .pointer (some ⟨g_3, 0, none⟩)), (5, .pointer (some ⟨g_4, 0, none⟩)), (10, v_45), (13, v_46), (14, v_47), (16, p0_2), (18, .pointer (some ⟨g_1, 3, none⟩))] ∧ Sep w0 w_52 [N_46, bx g_1 32 [p0_0, p0_1, p0_2, p0_3], bx g_2 24 (E24 x1 p1_4 p1_5 p1_6), bx g_3 32 [nS, nS, nS, nS], bx g_4 91 [iV 0, nS, iV 0], M_42, M_43, M_44] Z ∧ Mem.no.le N_46 ∧ Own Kd.u8 5 M_42 Mem.no v_45 t_1 ∧ Own (Kd.slice Kd.u8) 22 M_43 N_46 v_46 t_2 ∧ Own (Kd.int .i64) 3 M_44 Mem.no v_47 ([] : List Int)) → GD_1 5 (bA 15 1535) a w_52 := by
  rintro a w_52 ⟨v_45, v_46, v_47, N_46, M_42, M_43, M_44, h, hS, le_33, ho_23, ho_24, ho_25⟩
  refine (hGD_1 _ _ _ _).2 <| h_evs [9, 11] (by kernel_rfl) ⟨⟨_, (bA 15 2047), rfl, by kernel_rfl, ?_⟩, ⟨_, (bA 15 3583), rfl, by kernel_rfl, ?_⟩, trivial⟩
  ·refine s_append (J := Mem.no) (I' := Mem.no) (p := 7) 17592186044416 h rfl rfl rfl U29 ti3 rfl rfl rfl rfl hS rfl ho_25 (Src.flat (flat_int .i64) (hp0_2.src (hA.trans hS.old))) mr mr et_3 fun w_53 v_48 M_45 hS' ho_26 a h => ?_
   replace hS : Sep w0 w_53 [_, _, _, _, _, _, _, M_45] Z := hS'
   refine ne (hS.sub (.cons le_33 (.zz (.rr (.rr (.rr .nn)))))) fun hs => ?_
   exact (hGD_1 _ _ _ _).1 (hD_4 _ _ ⟨v_45, v_46, v_48, N_46, M_42, M_43, M_45, (h.to rfl), (hS.sel [0, 1, 2, 3, 4, 5, 6, 7] (by decide)), le_33, ho_23, (ho_24.mono mr), ho_26⟩)
  ·refine s_load h rfl rfl (hS.load_one (p := 1) rfl U30 rfl rfl) fun a h=>wpList_nil <| x_then_n ⟨(hS.sub (.cons le_33 (.zz (.rr (.rr (.rr .nn)))))), ?_⟩
   exact (hGD_1 _ _ _ _).1 (hD_5 _ _ ⟨v_45, v_46, v_47, N_46, M_42, M_43, M_44, (h.to rfl), (hS.sel [0, 1, 2, 3, 4, 5, 6, 7] (by decide)), le_33, ho_23, (ho_24.mono mr), ho_25⟩)
 have hD_7 : ∀ (a : Act) (w_54 : World), (∃ (v_49 : Value) (v_50 : Value) (v_51 : Value) (N_47 : Mem) (M_46 : Mem) (M_47 : Mem) (M_48 : Mem), Fr 144 a [(2, .pointer (some ⟨g_1, 0, none⟩)), (3, .pointer (some ⟨g_2, 0, none⟩)), (4, .pointer (some ⟨g_3, 0, none⟩)), (5, .pointer (some ⟨g_4, 0, none⟩)), (10, v_49), (13, v_50), (14, v_51), (15, .pointer (some ⟨g_1, 2, none⟩)), (19, p0_3)] ∧ Sep w0 w_54 [N_47, bx g_1 32 [p0_0, p0_1, p0_2, p0_3], bx g_2 24 (E24 x1 p1_4 p1_5 p1_6), bx g_3 32 [nS, nS, nS, nS], bx g_4 91 [iV 0, nS, iV 0], M_46, M_47, M_48] Z ∧ Mem.no.le N_47 ∧ Own Kd.u8 5 M_46 Mem.no v_49 t_1 ∧ Own (Kd.slice Kd.u8) 22 M_47 N_47 v_50 t_2 ∧ Own (Kd.int .i64) 3 M_48 Mem.no v_51 ([] : List Int)) → GD_1 5 (bA 15 3327) a w_54 := by
  rintro a w_54 ⟨v_49, v_50, v_51, N_47, M_46, M_47, M_48, h, hS, le_34, ho_27, ho_28, ho_29⟩
  refine (hGD_1 _ _ _ _).2 <| h_events [8] (by kernel_rfl) (by simp) ?_
  intro i hi; simp only [List.mem_cons, List.not_mem_nil, or_false] at hi; rcases hi with rfl
  refine ⟨_, (bA 15 3583), rfl, by kernel_rfl, ?_⟩
  refine s_load h rfl rfl (hS.load_one (p := 1) rfl U29 rfl rfl) fun a h=>wpList_nil <| x_then_n ⟨(hS.sub (.cons le_34 (.zz (.rr (.rr (.rr .nn)))))), ?_⟩
  exact (hGD_1 _ _ _ _).1 (hD_5 _ _ ⟨v_49, v_50, v_51, N_47, M_46, M_47, M_48, (h.to rfl), (hS.sel [0, 1, 2, 3, 4, 5, 6, 7] (by decide)), le_34, ho_27, (ho_28.mono mr), ho_29⟩)
 have hD_8 : ∀ (a : Act) (w_55 : World), (∃ (v_52 : Value) (v_53 : Value) (N_48 : Mem) (M_49 : Mem) (M_50 : Mem), Fr 144 a [(2, .pointer (some ⟨g_1, 0, none⟩)), (3, .pointer (some ⟨g_2, 0, none⟩)), (4, .pointer (some ⟨g_3, 0, none⟩)), (5, .pointer (some ⟨g_4, 0, none⟩)), (10, v_52), (13, v_53), (16, p0_2), (19, p0_3)] ∧ Sep w0 w_55 [N_48, bx g_1 32 [p0_0, p0_1, p0_2, p0_3], bx g_2 24 (E24 x1 p1_4 p1_5 p1_6), bx g_3 32 [nS, nS, nS, nS], bx g_4 91 [iV 0, nS, iV 0], M_49, M_50] Z ∧ Mem.no.le N_48 ∧ Own Kd.u8 5 M_49 Mem.no v_52 t_1 ∧ Own (Kd.slice Kd.u8) 22 M_50 N_48 v_53 t_2) → GD_1 5 (bA 15 3519) a w_55 := by
  rintro a w_55 ⟨v_52, v_53, N_48, M_49, M_50, h, hS, le_35, ho_30, ho_31⟩
  refine (hGD_1 _ _ _ _).2 <| h_events [6] (by kernel_rfl) (by simp) ?_
  intro i hi; simp only [List.mem_cons, List.not_mem_nil, or_false] at hi; rcases hi with rfl
  refine ⟨_, (bA 15 3583), rfl, by kernel_rfl, ?_⟩
  have hq_1 : Reps (Kd.int .i64) Mem.no ([] : List Int) _ := (Reps.nil (Kd.int .i64) _)
  refine s_buildSlice h rfl U29 ti3 rfl rfl rfl .nil rfl rfl rfl hS hq_1 rfl fun w_56 v_54 M_51 hS' ho_32 a h => ?_
  replace hS : Sep w0 w_56 [_, _, _, _, _, _, _, M_51] Z := hS'
  refine ne (hS.sub (.cons le_35 (.zz (.rr (.rr (.rr .nn)))))) fun hs => ?_
  exact (hGD_1 _ _ _ _).1 (hD_5 _ _ ⟨v_52, v_53, v_54, N_48, M_49, M_50, M_51, (h.to rfl), (hS.sel [0, 1, 2, 3, 4, 5, 6, 7] (by decide)), le_35, ho_30, (ho_31.mono mr), ho_32⟩)
 have hD_9 : ∀ (a : Act) (w_57 : World), (∃ (v_55 : Value) (v_56 : Value) (N_49 : Mem) (M_52 : Mem) (M_53 : Mem), Fr 144 a [(2, .pointer (some ⟨g_1, 0, none⟩)), (3, .pointer (some ⟨g_2, 0, none⟩)), (4, .pointer (some ⟨g_3, 0, none⟩)), (5, .pointer (some ⟨g_4, 0, none⟩)), (10, v_55), (12, p0_1), (14, v_56), (16, p0_2), (19, p0_3)] ∧ Sep w0 w_57 [N_49, bx g_1 32 [p0_0, p0_1, p0_2, p0_3], bx g_2 24 (E24 x1 p1_4 p1_5 p1_6), bx g_3 32 [nS, nS, nS, nS], bx g_4 91 [iV 0, nS, iV 0], M_52, M_53] Z ∧ Mem.no.le N_49 ∧ Own Kd.u8 5 M_52 Mem.no v_55 t_1 ∧ Own (Kd.int .i64) 3 M_53 Mem.no v_56 ([] : List Int)) → GD_1 5 (bA 15 3551) a w_57 := by
  rintro a w_57 ⟨v_55, v_56, N_49, M_52, M_53, h, hS, le_36, ho_33, ho_34⟩
  refine (hGD_1 _ _ _ _).2 <| h_events [5] (by kernel_rfl) (by simp) ?_
  intro i hi; simp only [List.mem_cons, List.not_mem_nil, or_false] at hi; rcases hi with rfl
  refine ⟨_, (bA 15 3583), rfl, by kernel_rfl, ?_⟩
  refine s_call h rfl Try.call102 rfl (hocketref4_rows.calls K x0.Queue _ t_2 w0 _ _ _ mr (hS.enter [] (by decide)) (hp0_1.mono (hA.trans (hS.le_zed []))) et_2) ?_
  rintro v_57 w_58 ⟨_, N_50, M_54, rfl, hS', hr_23⟩
  intro a h
  obtain ⟨N_51, hS'', le_37, ln_14⟩ := hS.call [] (by decide) rfl (l' := []) (ow := [_]) rfl hS'
  replace hS : Sep w0 w_58 [N_51, _, _, _, _, _, _, _] Z := hS''
  refine ne (hS.sub (.cons (le_36.trans le_37) (.zz (.rr (.rr (.rr .nn)))))) fun hs => ?_
  exact (hGD_1 _ _ _ _).1 (hD_5 _ _ ⟨v_55, v_57, v_56, N_51, M_52, M_54, M_53, (h.to rfl), (hS.sel [0, 1, 2, 3, 4, 5, 7, 6] (by decide)), (le_36.trans le_37), ho_33, ((hr_23.mono ln_14).mono mr), ho_34⟩)
 have hD_10 : ∀ (a : Act) (w_59 : World), (∃ (v_58 : Value) (v_59 : Value) (v_60 : Value) (N_52 : Mem) (M_55 : Mem) (M_56 : Mem) (M_57 : Mem), Fr 144 a [(2, .pointer (some ⟨g_1, 0, none⟩)), (3, .pointer (some ⟨g_2, 0, none⟩)), (4, .pointer (some ⟨g_3, 0, none⟩)), (5, .pointer (some ⟨g_4, 0, none⟩)), (10, v_58), (13, v_59), (14, v_60), (15, .pointer (some ⟨g_1, 2, none⟩)), (18, .pointer (some ⟨g_1, 3, none⟩))] ∧ Sep w0 w_59 [N_52, bx g_1 32 [p0_0, p0_1, p0_2, p0_3], bx g_2 24 (E24 x1 p1_4 p1_5 p1_6), bx g_3 32 [nS, nS, nS, nS], bx g_4 91 [iV 0, nS, iV 0], M_55, M_56, M_57] Z ∧ Mem.no.le N_52 ∧ Own Kd.u8 5 M_55 Mem.no v_58 t_1 ∧ Own (Kd.slice Kd.u8) 22 M_56 N_52 v_59 t_2 ∧ Own (Kd.int .i64) 3 M_57 Mem.no v_60 ([] : List Int)) → GD_1 6 (bA 15 1279) a w_59 := by
  rintro a w_59 ⟨v_58, v_59, v_60, N_52, M_55, M_56, M_57, h, hS, le_38, ho_35, ho_36, ho_37⟩
  refine (hGD_1 _ _ _ _).2 <| h_evs [8, 11] (by kernel_rfl) ⟨⟨_, (bA 15 1535), rfl, by kernel_rfl, ?_⟩, ⟨_, (bA 15 3327), rfl, by kernel_rfl, ?_⟩, trivial⟩
  ·refine s_load h rfl rfl (hS.load_one (p := 1) rfl U29 rfl rfl) fun a h=>wpList_nil <| x_then_n ⟨(hS.sub (.cons le_38 (.zz (.rr (.rr (.rr .nn)))))), ?_⟩
   exact (hGD_1 _ _ _ _).1 (hD_6 _ _ ⟨v_58, v_59, v_60, N_52, M_55, M_56, M_57, (h.to rfl), (hS.sel [0, 1, 2, 3, 4, 5, 6, 7] (by decide)), le_38, ho_35, (ho_36.mono mr), ho_37⟩)
  ·refine s_load h rfl rfl (hS.load_one (p := 1) rfl U30 rfl rfl) fun a h=>wpList_nil <| x_then_n ⟨(hS.sub (.cons le_38 (.zz (.rr (.rr (.rr .nn)))))), ?_⟩
   exact (hGD_1 _ _ _ _).1 (hD_7 _ _ ⟨v_58, v_59, v_60, N_52, M_55, M_56, M_57, (h.to rfl), (hS.sel [0, 1, 2, 3, 4, 5, 6, 7] (by decide)), le_38, ho_35, (ho_36.mono mr), ho_37⟩)
 have hD_11 : ∀ (a : Act) (w_60 : World), (∃ (v_61 : Value) (v_62 : Value) (N_53 : Mem) (M_58 : Mem) (M_59 : Mem), Fr 144 a [(2, .pointer (some ⟨g_1, 0, none⟩)), (3, .pointer (some ⟨g_2, 0, none⟩)), (4, .pointer (some ⟨g_3, 0, none⟩)), (5, .pointer (some ⟨g_4, 0, none⟩)), (10, v_61), (13, v_62), (16, p0_2), (18, .pointer (some ⟨g_1, 3, none⟩))] ∧ Sep w0 w_60 [N_53, bx g_1 32 [p0_0, p0_1, p0_2, p0_3], bx g_2 24 (E24 x1 p1_4 p1_5 p1_6), bx g_3 32 [nS, nS, nS, nS], bx g_4 91 [iV 0, nS, iV 0], M_58, M_59] Z ∧ Mem.no.le N_53 ∧ Own Kd.u8 5 M_58 Mem.no v_61 t_1 ∧ Own (Kd.slice Kd.u8) 22 M_59 N_53 v_62 t_2) → GD_1 6 (bA 15 1471) a w_60 := by
  rintro a w_60 ⟨v_61, v_62, N_53, M_58, M_59, h, hS, le_39, ho_38, ho_39⟩
  refine (hGD_1 _ _ _ _).2 <| h_evs [6, 11] (by kernel_rfl) ⟨⟨_, (bA 15 1535), rfl, by kernel_rfl, ?_⟩, ⟨_, (bA 15 3519), rfl, by kernel_rfl, ?_⟩, trivial⟩
  ·have hq_2 : Reps (Kd.int .i64) Mem.no ([] : List Int) _ := (Reps.nil (Kd.int .i64) _)
   refine s_buildSlice h rfl U29 ti3 rfl rfl rfl .nil rfl rfl rfl hS hq_2 rfl fun w_61 v_63 M_60 hS' ho_40 a h => ?_
   replace hS : Sep w0 w_61 [_, _, _, _, _, _, _, M_60] Z := hS'
   refine ne (hS.sub (.cons le_39 (.zz (.rr (.rr (.rr .nn)))))) fun hs => ?_
   exact (hGD_1 _ _ _ _).1 (hD_6 _ _ ⟨v_61, v_62, v_63, N_53, M_58, M_59, M_60, (h.to rfl), (hS.sel [0, 1, 2, 3, 4, 5, 6, 7] (by decide)), le_39, ho_38, (ho_39.mono mr), ho_40⟩)
  ·refine s_load h rfl rfl (hS.load_one (p := 1) rfl U30 rfl rfl) fun a h=>wpList_nil <| x_then_n ⟨(hS.sub (.cons le_39 (.zz (.rr (.rr (.rr .nn)))))), ?_⟩
   exact (hGD_1 _ _ _ _).1 (hD_8 _ _ ⟨v_61, v_62, N_53, M_58, M_59, (h.to rfl), (hS.sel [0, 1, 2, 3, 4, 5, 6] (by decide)), le_39, ho_38, (ho_39.mono mr)⟩)
 have hD_12 : ∀ (a : Act) (w_62 : World), (∃ (v_64 : Value) (v_65 : Value) (N_54 : Mem) (M_61 : Mem) (M_62 : Mem), Fr 144 a [(2, .pointer (some ⟨g_1, 0, none⟩)), (3, .pointer (some ⟨g_2, 0, none⟩)), (4, .pointer (some ⟨g_3, 0, none⟩)), (5, .pointer (some ⟨g_4, 0, none⟩)), (10, v_64), (13, v_65), (15, .pointer (some ⟨g_1, 2, none⟩)), (19, p0_3)] ∧ Sep w0 w_62 [N_54, bx g_1 32 [p0_0, p0_1, p0_2, p0_3], bx g_2 24 (E24 x1 p1_4 p1_5 p1_6), bx g_3 32 [nS, nS, nS, nS], bx g_4 91 [iV 0, nS, iV 0], M_61, M_62] Z ∧ Mem.no.le N_54 ∧ Own Kd.u8 5 M_61 Mem.no v_64 t_1 ∧ Own (Kd.slice Kd.u8) 22 M_62 N_54 v_65 t_2) → GD_1 6 (bA 15 3263) a w_62 := by
  rintro a w_62 ⟨v_64, v_65, N_54, M_61, M_62, h, hS, le_40, ho_41, ho_42⟩
  refine (hGD_1 _ _ _ _).2 <| h_evs [6, 8] (by kernel_rfl) ⟨⟨_, (bA 15 3327), rfl, by kernel_rfl, ?_⟩, ⟨_, (bA 15 3519), rfl, by kernel_rfl, ?_⟩, trivial⟩
  ·have hq_3 : Reps (Kd.int .i64) Mem.no ([] : List Int) _ := (Reps.nil (Kd.int .i64) _)
   refine s_buildSlice h rfl U29 ti3 rfl rfl rfl .nil rfl rfl rfl hS hq_3 rfl fun w_63 v_66 M_63 hS' ho_43 a h => ?_
   replace hS : Sep w0 w_63 [_, _, _, _, _, _, _, M_63] Z := hS'
   refine ne (hS.sub (.cons le_40 (.zz (.rr (.rr (.rr .nn)))))) fun hs => ?_
   exact (hGD_1 _ _ _ _).1 (hD_7 _ _ ⟨v_64, v_65, v_66, N_54, M_61, M_62, M_63, (h.to rfl), (hS.sel [0, 1, 2, 3, 4, 5, 6, 7] (by decide)), le_40, ho_41, (ho_42.mono mr), ho_43⟩)
  ·refine s_load h rfl rfl (hS.load_one (p := 1) rfl U29 rfl rfl) fun a h=>wpList_nil <| x_then_n ⟨(hS.sub (.cons le_40 (.zz (.rr (.rr (.rr .nn)))))), ?_⟩
   exact (hGD_1 _ _ _ _).1 (hD_8 _ _ ⟨v_64, v_65, N_54, M_61, M_62, (h.to rfl), (hS.sel [0, 1, 2, 3, 4, 5, 6] (by decide)), le_40, ho_41, (ho_42.mono mr)⟩)
 have hD_13 : ∀ (a : Act) (w_64 : World), (∃ (v_67 : Value) (v_68 : Value) (N_55 : Mem) (M_64 : Mem) (M_65 : Mem), Fr 144 a [(2, .pointer (some ⟨g_1, 0, none⟩)), (3, .pointer (some ⟨g_2, 0, none⟩)), (4, .pointer (some ⟨g_3, 0, none⟩)), (5, .pointer (some ⟨g_4, 0, none⟩)), (10, v_67), (12, p0_1), (14, v_68), (16, p0_2), (18, .pointer (some ⟨g_1, 3, none⟩))] ∧ Sep w0 w_64 [N_55, bx g_1 32 [p0_0, p0_1, p0_2, p0_3], bx g_2 24 (E24 x1 p1_4 p1_5 p1_6), bx g_3 32 [nS, nS, nS, nS], bx g_4 91 [iV 0, nS, iV 0], M_64, M_65] Z ∧ Mem.no.le N_55 ∧ Own Kd.u8 5 M_64 Mem.no v_67 t_1 ∧ Own (Kd.int .i64) 3 M_65 Mem.no v_68 ([] : List Int)) → GD_1 6 (bA 15 1503) a w_64 := by
  rintro a w_64 ⟨v_67, v_68, N_55, M_64, M_65, h, hS, le_41, ho_44, ho_45⟩
  refine (hGD_1 _ _ _ _).2 <| h_evs [5, 11] (by kernel_rfl) ⟨⟨_, (bA 15 1535), rfl, by kernel_rfl, ?_⟩, ⟨_, (bA 15 3551), rfl, by kernel_rfl, ?_⟩, trivial⟩
  ·refine s_call h rfl Try.call102 rfl (hocketref4_rows.calls K x0.Queue _ t_2 w0 _ _ _ mr (hS.enter [] (by decide)) (hp0_1.mono (hA.trans (hS.le_zed []))) et_2) ?_
   rintro v_69 w_65 ⟨_, N_56, M_66, rfl, hS', hr_24⟩
   intro a h
   obtain ⟨N_57, hS'', le_42, ln_15⟩ := hS.call [] (by decide) rfl (l' := []) (ow := [_]) rfl hS'
   replace hS : Sep w0 w_65 [N_57, _, _, _, _, _, _, _] Z := hS''
   refine ne (hS.sub (.cons (le_41.trans le_42) (.zz (.rr (.rr (.rr .nn)))))) fun hs => ?_
   exact (hGD_1 _ _ _ _).1 (hD_6 _ _ ⟨v_67, v_69, v_68, N_57, M_64, M_66, M_65, (h.to rfl), (hS.sel [0, 1, 2, 3, 4, 5, 7, 6] (by decide)), (le_41.trans le_42), ho_44, ((hr_24.mono ln_15).mono mr), ho_45⟩)
  ·refine s_load h rfl rfl (hS.load_one (p := 1) rfl U30 rfl rfl) fun a h=>wpList_nil <| x_then_n ⟨(hS.sub (.cons le_41 (.zz (.rr (.rr (.rr .nn)))))), ?_⟩
   exact (hGD_1 _ _ _ _).1 (hD_9 _ _ ⟨v_67, v_68, N_55, M_64, M_65, (h.to rfl), (hS.sel [0, 1, 2, 3, 4, 5, 6] (by decide)), le_41, ho_44, ho_45⟩)
 have hD_14 : ∀ (a : Act) (w_66 : World), (∃ (v_70 : Value) (v_71 : Value) (N_58 : Mem) (M_67 : Mem) (M_68 : Mem), Fr 144 a [(2, .pointer (some ⟨g_1, 0, none⟩)), (3, .pointer (some ⟨g_2, 0, none⟩)), (4, .pointer (some ⟨g_3, 0, none⟩)), (5, .pointer (some ⟨g_4, 0, none⟩)), (10, v_70), (12, p0_1), (14, v_71), (15, .pointer (some ⟨g_1, 2, none⟩)), (19, p0_3)] ∧ Sep w0 w_66 [N_58, bx g_1 32 [p0_0, p0_1, p0_2, p0_3], bx g_2 24 (E24 x1 p1_4 p1_5 p1_6), bx g_3 32 [nS, nS, nS, nS], bx g_4 91 [iV 0, nS, iV 0], M_67, M_68] Z ∧ Mem.no.le N_58 ∧ Own Kd.u8 5 M_67 Mem.no v_70 t_1 ∧ Own (Kd.int .i64) 3 M_68 Mem.no v_71 ([] : List Int)) → GD_1 6 (bA 15 3295) a w_66 := by
  rintro a w_66 ⟨v_70, v_71, N_58, M_67, M_68, h, hS, le_43, ho_46, ho_47⟩
  refine (hGD_1 _ _ _ _).2 <| h_evs [5, 8] (by kernel_rfl) ⟨⟨_, (bA 15 3327), rfl, by kernel_rfl, ?_⟩, ⟨_, (bA 15 3551), rfl, by kernel_rfl, ?_⟩, trivial⟩
  ·refine s_call h rfl Try.call102 rfl (hocketref4_rows.calls K x0.Queue _ t_2 w0 _ _ _ mr (hS.enter [] (by decide)) (hp0_1.mono (hA.trans (hS.le_zed []))) et_2) ?_
   rintro v_72 w_67 ⟨_, N_59, M_69, rfl, hS', hr_25⟩
   intro a h
   obtain ⟨N_60, hS'', le_44, ln_16⟩ := hS.call [] (by decide) rfl (l' := []) (ow := [_]) rfl hS'
   replace hS : Sep w0 w_67 [N_60, _, _, _, _, _, _, _] Z := hS''
   refine ne (hS.sub (.cons (le_43.trans le_44) (.zz (.rr (.rr (.rr .nn)))))) fun hs => ?_
   exact (hGD_1 _ _ _ _).1 (hD_7 _ _ ⟨v_70, v_72, v_71, N_60, M_67, M_69, M_68, (h.to rfl), (hS.sel [0, 1, 2, 3, 4, 5, 7, 6] (by decide)), (le_43.trans le_44), ho_46, ((hr_25.mono ln_16).mono mr), ho_47⟩)
  ·refine s_load h rfl rfl (hS.load_one (p := 1) rfl U29 rfl rfl) fun a h=>wpList_nil <| x_then_n ⟨(hS.sub (.cons le_43 (.zz (.rr (.rr (.rr .nn)))))), ?_⟩
   exact (hGD_1 _ _ _ _).1 (hD_9 _ _ ⟨v_70, v_71, N_58, M_67, M_68, (h.to rfl), (hS.sel [0, 1, 2, 3, 4, 5, 6] (by decide)), le_43, ho_46, ho_47⟩)
 have hD_15 : ∀ (a : Act) (w_68 : World), (∃ (v_73 : Value) (N_61 : Mem) (M_70 : Mem), Fr 144 a [(2, .pointer (some ⟨g_1, 0, none⟩)), (3, .pointer (some ⟨g_2, 0, none⟩)), (4, .pointer (some ⟨g_3, 0, none⟩)), (5, .pointer (some ⟨g_4, 0, none⟩)), (10, v_73), (12, p0_1), (16, p0_2), (19, p0_3)] ∧ Sep w0 w_68 [N_61, bx g_1 32 [p0_0, p0_1, p0_2, p0_3], bx g_2 24 (E24 x1 p1_4 p1_5 p1_6), bx g_3 32 [nS, nS, nS, nS], bx g_4 91 [iV 0, nS, iV 0], M_70] Z ∧ Mem.no.le N_61 ∧ Own Kd.u8 5 M_70 Mem.no v_73 t_1) → GD_1 6 (bA 15 3487) a w_68 := by
  rintro a w_68 ⟨v_73, N_61, M_70, h, hS, le_45, ho_48⟩
  refine (hGD_1 _ _ _ _).2 <| h_evs [5, 6] (by kernel_rfl) ⟨⟨_, (bA 15 3519), rfl, by kernel_rfl, ?_⟩, ⟨_, (bA 15 3551), rfl, by kernel_rfl, ?_⟩, trivial⟩
  ·refine s_call h rfl Try.call102 rfl (hocketref4_rows.calls K x0.Queue _ t_2 w0 _ _ _ mr (hS.enter [] (by decide)) (hp0_1.mono (hA.trans (hS.le_zed []))) et_2) ?_
   rintro v_74 w_69 ⟨_, N_62, M_71, rfl, hS', hr_26⟩
   intro a h
   obtain ⟨N_63, hS'', le_46, ln_17⟩ := hS.call [] (by decide) rfl (l' := []) (ow := [_]) rfl hS'
   replace hS : Sep w0 w_69 [N_63, _, _, _, _, _, _] Z := hS''
   refine ne (hS.sub (.cons (le_45.trans le_46) (.zz (.rr (.rr (.rr .nn)))))) fun hs => ?_
   exact (hGD_1 _ _ _ _).1 (hD_8 _ _ ⟨v_73, v_74, N_63, M_70, M_71, (h.to rfl), (hS.sel [0, 1, 2, 3, 4, 5, 6] (by decide)), (le_45.trans le_46), ho_48, ((hr_26.mono ln_17).mono mr)⟩)
  ·have hq_4 : Reps (Kd.int .i64) Mem.no ([] : List Int) _ := (Reps.nil (Kd.int .i64) _)
   refine s_buildSlice h rfl U29 ti3 rfl rfl rfl .nil rfl rfl rfl hS hq_4 rfl fun w_70 v_75 M_72 hS' ho_49 a h => ?_
   replace hS : Sep w0 w_70 [_, _, _, _, _, _, M_72] Z := hS'
   refine ne (hS.sub (.cons le_45 (.zz (.rr (.rr (.rr .nn)))))) fun hs => ?_
   exact (hGD_1 _ _ _ _).1 (hD_9 _ _ ⟨v_73, v_75, N_61, M_70, M_72, (h.to rfl), (hS.sel [0, 1, 2, 3, 4, 5, 6] (by decide)), le_45, ho_48, ho_49⟩)
 have hD_16 : ∀ (a : Act) (w_71 : World), (∃ (v_76 : Value) (v_77 : Value) (N_64 : Mem) (M_73 : Mem) (M_74 : Mem), Fr 144 a [(2, .pointer (some ⟨g_1, 0, none⟩)), (3, .pointer (some ⟨g_2, 0, none⟩)), (4, .pointer (some ⟨g_3, 0, none⟩)), (5, .pointer (some ⟨g_4, 0, none⟩)), (10, v_76), (11, .pointer (some ⟨g_1, 1, none⟩)), (14, v_77), (16, p0_2), (19, p0_3)] ∧ Sep w0 w_71 [N_64, bx g_1 32 [p0_0, p0_1, p0_2, p0_3], bx g_2 24 (E24 x1 p1_4 p1_5 p1_6), bx g_3 32 [nS, nS, nS, nS], bx g_4 91 [iV 0, nS, iV 0], M_73, M_74] Z ∧ Mem.no.le N_64 ∧ Own Kd.u8 5 M_73 Mem.no v_76 t_1 ∧ Own (Kd.int .i64) 3 M_74 Mem.no v_77 ([] : List Int)) → GD_1 6 (bA 15 3535) a w_71 := by
  rintro a w_71 ⟨v_76, v_77, N_64, M_73, M_74, h, hS, le_47, ho_50, ho_51⟩
  refine (hGD_1 _ _ _ _).2 <| h_events [4] (by kernel_rfl) (by simp) ?_
  intro i hi; simp only [List.mem_cons, List.not_mem_nil, or_false] at hi; rcases hi with rfl
  refine ⟨_, (bA 15 3551), rfl, by kernel_rfl, ?_⟩
  refine s_load h rfl rfl (hS.load_one (p := 1) rfl U28 rfl rfl) fun a h=>wpList_nil <| x_then_n ⟨(hS.sub (.cons le_47 (.zz (.rr (.rr (.rr .nn)))))), ?_⟩
  exact (hGD_1 _ _ _ _).1 (hD_9 _ _ ⟨v_76, v_77, N_64, M_73, M_74, (h.to rfl), (hS.sel [0, 1, 2, 3, 4, 5, 6] (by decide)), le_47, ho_50, ho_51⟩)
 have hD_17 : ∀ (a : Act) (w_72 : World), (∃ (v_78 : Value) (N_65 : Mem) (M_75 : Mem), Fr 144 a [(2, .pointer (some ⟨g_1, 0, none⟩)), (3, .pointer (some ⟨g_2, 0, none⟩)), (4, .pointer (some ⟨g_3, 0, none⟩)), (5, .pointer (some ⟨g_4, 0, none⟩)), (9, p0_0), (12, p0_1), (14, v_78), (16, p0_2), (19, p0_3)] ∧ Sep w0 w_72 [N_65, bx g_1 32 [p0_0, p0_1, p0_2, p0_3], bx g_2 24 (E24 x1 p1_4 p1_5 p1_6), bx g_3 32 [nS, nS, nS, nS], bx g_4 91 [iV 0, nS, iV 0], M_75] Z ∧ Mem.no.le N_65 ∧ Own (Kd.int .i64) 3 M_75 Mem.no v_78 ([] : List Int)) → GD_1 6 (bA 15 3547) a w_72 := by
  rintro a w_72 ⟨v_78, N_65, M_75, h, hS, le_48, ho_52⟩
  refine (hGD_1 _ _ _ _).2 <| h_events [2] (by kernel_rfl) (by simp) ?_
  intro i hi; simp only [List.mem_cons, List.not_mem_nil, or_false] at hi; rcases hi with rfl
  refine ⟨_, (bA 15 3551), rfl, by kernel_rfl, ?_⟩
  refine s_call h rfl Try.call101 rfl (hocketref4_own.calls x0.Reg _ t_1 w0 _ _ _ mr (hS.enter [] (by decide)) (hp0_0.mono (hA.trans (hS.le_zed []))) et_1) ?_
  rintro v_79 w_73 ⟨_, N_66, M_76, rfl, hS', hr_27⟩
  intro a h
  obtain ⟨N_67, hS'', le_49, ln_18⟩ := hS.call [] (by decide) rfl (l' := []) (ow := [_]) rfl hS'
  replace hS : Sep w0 w_73 [N_67, _, _, _, _, _, _] Z := hS''
  refine ne (hS.sub (.cons (le_48.trans le_49) (.zz (.rr (.rr (.rr .nn)))))) fun hs => ?_
  exact (hGD_1 _ _ _ _).1 (hD_9 _ _ ⟨v_79, v_78, N_67, M_76, M_75, (h.to rfl), (hS.sel [0, 1, 2, 3, 4, 6, 5] (by decide)), (le_48.trans le_49), hr_27, ho_52⟩)
 have hD_18 : ∀ (a : Act) (w_74 : World), (∃ (v_80 : Value) (v_81 : Value) (N_68 : Mem) (M_77 : Mem) (M_78 : Mem), Fr 144 a [(2, .pointer (some ⟨g_1, 0, none⟩)), (3, .pointer (some ⟨g_2, 0, none⟩)), (4, .pointer (some ⟨g_3, 0, none⟩)), (5, .pointer (some ⟨g_4, 0, none⟩)), (10, v_80), (13, v_81), (15, .pointer (some ⟨g_1, 2, none⟩)), (18, .pointer (some ⟨g_1, 3, none⟩))] ∧ Sep w0 w_74 [N_68, bx g_1 32 [p0_0, p0_1, p0_2, p0_3], bx g_2 24 (E24 x1 p1_4 p1_5 p1_6), bx g_3 32 [nS, nS, nS, nS], bx g_4 91 [iV 0, nS, iV 0], M_77, M_78] Z ∧ Mem.no.le N_68 ∧ Own Kd.u8 5 M_77 Mem.no v_80 t_1 ∧ Own (Kd.slice Kd.u8) 22 M_78 N_68 v_81 t_2) → GD_1 7 (bA 15 1215) a w_74 := by
  rintro a w_74 ⟨v_80, v_81, N_68, M_77, M_78, h, hS, le_50, ho_53, ho_54⟩
  refine (hGD_1 _ _ _ _).2 <| h_evs [6, 8, 11] (by kernel_rfl) ⟨⟨_, (bA 15 1279), rfl, by kernel_rfl, ?_⟩, ⟨_, (bA 15 1471), rfl, by kernel_rfl, ?_⟩, ⟨_, (bA 15 3263), rfl, by kernel_rfl, ?_⟩, trivial⟩
  ·have hq_5 : Reps (Kd.int .i64) Mem.no ([] : List Int) _ := (Reps.nil (Kd.int .i64) _)
   refine s_buildSlice h rfl U29 ti3 rfl rfl rfl .nil rfl rfl rfl hS hq_5 rfl fun w_75 v_82 M_79 hS' ho_55 a h => ?_
   replace hS : Sep w0 w_75 [_, _, _, _, _, _, _, M_79] Z := hS'
   refine ne (hS.sub (.cons le_50 (.zz (.rr (.rr (.rr .nn)))))) fun hs => ?_
   exact (hGD_1 _ _ _ _).1 (hD_10 _ _ ⟨v_80, v_81, v_82, N_68, M_77, M_78, M_79, (h.to rfl), (hS.sel [0, 1, 2, 3, 4, 5, 6, 7] (by decide)), le_50, ho_53, (ho_54.mono mr), ho_55⟩)
  ·refine s_load h rfl rfl (hS.load_one (p := 1) rfl U29 rfl rfl) fun a h=>wpList_nil <| x_then_n ⟨(hS.sub (.cons le_50 (.zz (.rr (.rr (.rr .nn)))))), ?_⟩
   exact (hGD_1 _ _ _ _).1 (hD_11 _ _ ⟨v_80, v_81, N_68, M_77, M_78, (h.to rfl), (hS.sel [0, 1, 2, 3, 4, 5, 6] (by decide)), le_50, ho_53, (ho_54.mono mr)⟩)
  ·refine s_load h rfl rfl (hS.load_one (p := 1) rfl U30 rfl rfl) fun a h=>wpList_nil <| x_then_n ⟨(hS.sub (.cons le_50 (.zz (.rr (.rr (.rr .nn)))))), ?_⟩
   exact (hGD_1 _ _ _ _).1 (hD_12 _ _ ⟨v_80, v_81, N_68, M_77, M_78, (h.to rfl), (hS.sel [0, 1, 2, 3, 4, 5, 6] (by decide)), le_50, ho_53, (ho_54.mono mr)⟩)
 have hD_19 : ∀ (a : Act) (w_76 : World), (∃ (v_83 : Value) (v_84 : Value) (N_69 : Mem) (M_80 : Mem) (M_81 : Mem), Fr 144 a [(2, .pointer (some ⟨g_1, 0, none⟩)), (3, .pointer (some ⟨g_2, 0, none⟩)), (4, .pointer (some ⟨g_3, 0, none⟩)), (5, .pointer (some ⟨g_4, 0, none⟩)), (10, v_83), (12, p0_1), (14, v_84), (15, .pointer (some ⟨g_1, 2, none⟩)), (18, .pointer (some ⟨g_1, 3, none⟩))] ∧ Sep w0 w_76 [N_69, bx g_1 32 [p0_0, p0_1, p0_2, p0_3], bx g_2 24 (E24 x1 p1_4 p1_5 p1_6), bx g_3 32 [nS, nS, nS, nS], bx g_4 91 [iV 0, nS, iV 0], M_80, M_81] Z ∧ Mem.no.le N_69 ∧ Own Kd.u8 5 M_80 Mem.no v_83 t_1 ∧ Own (Kd.int .i64) 3 M_81 Mem.no v_84 ([] : List Int)) → GD_1 7 (bA 15 1247) a w_76 := by
  rintro a w_76 ⟨v_83, v_84, N_69, M_80, M_81, h, hS, le_51, ho_56, ho_57⟩
  refine (hGD_1 _ _ _ _).2 <| h_evs [5, 8, 11] (by kernel_rfl) ⟨⟨_, (bA 15 1279), rfl, by kernel_rfl, ?_⟩, ⟨_, (bA 15 1503), rfl, by kernel_rfl, ?_⟩, ⟨_, (bA 15 3295), rfl, by kernel_rfl, ?_⟩, trivial⟩
  ·refine s_call h rfl Try.call102 rfl (hocketref4_rows.calls K x0.Queue _ t_2 w0 _ _ _ mr (hS.enter [] (by decide)) (hp0_1.mono (hA.trans (hS.le_zed []))) et_2) ?_
   rintro v_85 w_77 ⟨_, N_70, M_82, rfl, hS', hr_28⟩
   intro a h
   obtain ⟨N_71, hS'', le_52, ln_19⟩ := hS.call [] (by decide) rfl (l' := []) (ow := [_]) rfl hS'
   replace hS : Sep w0 w_77 [N_71, _, _, _, _, _, _, _] Z := hS''
   refine ne (hS.sub (.cons (le_51.trans le_52) (.zz (.rr (.rr (.rr .nn)))))) fun hs => ?_
   exact (hGD_1 _ _ _ _).1 (hD_10 _ _ ⟨v_83, v_85, v_84, N_71, M_80, M_82, M_81, (h.to rfl), (hS.sel [0, 1, 2, 3, 4, 5, 7, 6] (by decide)), (le_51.trans le_52), ho_56, ((hr_28.mono ln_19).mono mr), ho_57⟩)
  ·refine s_load h rfl rfl (hS.load_one (p := 1) rfl U29 rfl rfl) fun a h=>wpList_nil <| x_then_n ⟨(hS.sub (.cons le_51 (.zz (.rr (.rr (.rr .nn)))))), ?_⟩
   exact (hGD_1 _ _ _ _).1 (hD_13 _ _ ⟨v_83, v_84, N_69, M_80, M_81, (h.to rfl), (hS.sel [0, 1, 2, 3, 4, 5, 6] (by decide)), le_51, ho_56, ho_57⟩)
  ·refine s_load h rfl rfl (hS.load_one (p := 1) rfl U30 rfl rfl) fun a h=>wpList_nil <| x_then_n ⟨(hS.sub (.cons le_51 (.zz (.rr (.rr (.rr .nn)))))), ?_⟩
   exact (hGD_1 _ _ _ _).1 (hD_14 _ _ ⟨v_83, v_84, N_69, M_80, M_81, (h.to rfl), (hS.sel [0, 1, 2, 3, 4, 5, 6] (by decide)), le_51, ho_56, ho_57⟩)
 have hD_20 : ∀ (a : Act) (w_78 : World), (∃ (v_86 : Value) (N_72 : Mem) (M_83 : Mem), Fr 144 a [(2, .pointer (some ⟨g_1, 0, none⟩)), (3, .pointer (some ⟨g_2, 0, none⟩)), (4, .pointer (some ⟨g_3, 0, none⟩)), (5, .pointer (some ⟨g_4, 0, none⟩)), (10, v_86), (12, p0_1), (16, p0_2), (18, .pointer (some ⟨g_1, 3, none⟩))] ∧ Sep w0 w_78 [N_72, bx g_1 32 [p0_0, p0_1, p0_2, p0_3], bx g_2 24 (E24 x1 p1_4 p1_5 p1_6), bx g_3 32 [nS, nS, nS, nS], bx g_4 91 [iV 0, nS, iV 0], M_83] Z ∧ Mem.no.le N_72 ∧ Own Kd.u8 5 M_83 Mem.no v_86 t_1) → GD_1 7 (bA 15 1439) a w_78 := by
  rintro a w_78 ⟨v_86, N_72, M_83, h, hS, le_53, ho_58⟩
  refine (hGD_1 _ _ _ _).2 <| h_evs [5, 6, 11] (by kernel_rfl) ⟨⟨_, (bA 15 1471), rfl, by kernel_rfl, ?_⟩, ⟨_, (bA 15 1503), rfl, by kernel_rfl, ?_⟩, ⟨_, (bA 15 3487), rfl, by kernel_rfl, ?_⟩, trivial⟩
  ·refine s_call h rfl Try.call102 rfl (hocketref4_rows.calls K x0.Queue _ t_2 w0 _ _ _ mr (hS.enter [] (by decide)) (hp0_1.mono (hA.trans (hS.le_zed []))) et_2) ?_
   rintro v_87 w_79 ⟨_, N_73, M_84, rfl, hS', hr_29⟩
   intro a h
   obtain ⟨N_74, hS'', le_54, ln_20⟩ := hS.call [] (by decide) rfl (l' := []) (ow := [_]) rfl hS'
   replace hS : Sep w0 w_79 [N_74, _, _, _, _, _, _] Z := hS''
   refine ne (hS.sub (.cons (le_53.trans le_54) (.zz (.rr (.rr (.rr .nn)))))) fun hs => ?_
   exact (hGD_1 _ _ _ _).1 (hD_11 _ _ ⟨v_86, v_87, N_74, M_83, M_84, (h.to rfl), (hS.sel [0, 1, 2, 3, 4, 5, 6] (by decide)), (le_53.trans le_54), ho_58, ((hr_29.mono ln_20).mono mr)⟩)
  ·have hq_6 : Reps (Kd.int .i64) Mem.no ([] : List Int) _ := (Reps.nil (Kd.int .i64) _)
   refine s_buildSlice h rfl U29 ti3 rfl rfl rfl .nil rfl rfl rfl hS hq_6 rfl fun w_80 v_88 M_85 hS' ho_59 a h => ?_
   replace hS : Sep w0 w_80 [_, _, _, _, _, _, M_85] Z := hS'
   refine ne (hS.sub (.cons le_53 (.zz (.rr (.rr (.rr .nn)))))) fun hs => ?_
   exact (hGD_1 _ _ _ _).1 (hD_13 _ _ ⟨v_86, v_88, N_72, M_83, M_85, (h.to rfl), (hS.sel [0, 1, 2, 3, 4, 5, 6] (by decide)), le_53, ho_58, ho_59⟩)
  ·refine s_load h rfl rfl (hS.load_one (p := 1) rfl U30 rfl rfl) fun a h=>wpList_nil <| x_then_n ⟨(hS.sub (.cons le_53 (.zz (.rr (.rr (.rr .nn)))))), ?_⟩
   exact (hGD_1 _ _ _ _).1 (hD_15 _ _ ⟨v_86, N_72, M_83, (h.to rfl), (hS.sel [0, 1, 2, 3, 4, 5] (by decide)), le_53, ho_58⟩)
 have hD_21 : ∀ (a : Act) (w_81 : World), (∃ (v_89 : Value) (N_75 : Mem) (M_86 : Mem), Fr 144 a [(2, .pointer (some ⟨g_1, 0, none⟩)), (3, .pointer (some ⟨g_2, 0, none⟩)), (4, .pointer (some ⟨g_3, 0, none⟩)), (5, .pointer (some ⟨g_4, 0, none⟩)), (10, v_89), (12, p0_1), (15, .pointer (some ⟨g_1, 2, none⟩)), (19, p0_3)] ∧ Sep w0 w_81 [N_75, bx g_1 32 [p0_0, p0_1, p0_2, p0_3], bx g_2 24 (E24 x1 p1_4 p1_5 p1_6), bx g_3 32 [nS, nS, nS, nS], bx g_4 91 [iV 0, nS, iV 0], M_86] Z ∧ Mem.no.le N_75 ∧ Own Kd.u8 5 M_86 Mem.no v_89 t_1) → GD_1 7 (bA 15 3231) a w_81 := by
  rintro a w_81 ⟨v_89, N_75, M_86, h, hS, le_55, ho_60⟩
  refine (hGD_1 _ _ _ _).2 <| h_evs [5, 6, 8] (by kernel_rfl) ⟨⟨_, (bA 15 3263), rfl, by kernel_rfl, ?_⟩, ⟨_, (bA 15 3295), rfl, by kernel_rfl, ?_⟩, ⟨_, (bA 15 3487), rfl, by kernel_rfl, ?_⟩, trivial⟩
  ·refine s_call h rfl Try.call102 rfl (hocketref4_rows.calls K x0.Queue _ t_2 w0 _ _ _ mr (hS.enter [] (by decide)) (hp0_1.mono (hA.trans (hS.le_zed []))) et_2) ?_
   rintro v_90 w_82 ⟨_, N_76, M_87, rfl, hS', hr_30⟩
   intro a h
   obtain ⟨N_77, hS'', le_56, ln_21⟩ := hS.call [] (by decide) rfl (l' := []) (ow := [_]) rfl hS'
   replace hS : Sep w0 w_82 [N_77, _, _, _, _, _, _] Z := hS''
   refine ne (hS.sub (.cons (le_55.trans le_56) (.zz (.rr (.rr (.rr .nn)))))) fun hs => ?_
   exact (hGD_1 _ _ _ _).1 (hD_12 _ _ ⟨v_89, v_90, N_77, M_86, M_87, (h.to rfl), (hS.sel [0, 1, 2, 3, 4, 5, 6] (by decide)), (le_55.trans le_56), ho_60, ((hr_30.mono ln_21).mono mr)⟩)
  ·have hq_7 : Reps (Kd.int .i64) Mem.no ([] : List Int) _ := (Reps.nil (Kd.int .i64) _)
   refine s_buildSlice h rfl U29 ti3 rfl rfl rfl .nil rfl rfl rfl hS hq_7 rfl fun w_83 v_91 M_88 hS' ho_61 a h => ?_
   replace hS : Sep w0 w_83 [_, _, _, _, _, _, M_88] Z := hS'
   refine ne (hS.sub (.cons le_55 (.zz (.rr (.rr (.rr .nn)))))) fun hs => ?_
   exact (hGD_1 _ _ _ _).1 (hD_14 _ _ ⟨v_89, v_91, N_75, M_86, M_88, (h.to rfl), (hS.sel [0, 1, 2, 3, 4, 5, 6] (by decide)), le_55, ho_60, ho_61⟩)
  ·refine s_load h rfl rfl (hS.load_one (p := 1) rfl U29 rfl rfl) fun a h=>wpList_nil <| x_then_n ⟨(hS.sub (.cons le_55 (.zz (.rr (.rr (.rr .nn)))))), ?_⟩
   exact (hGD_1 _ _ _ _).1 (hD_15 _ _ ⟨v_89, N_75, M_86, (h.to rfl), (hS.sel [0, 1, 2, 3, 4, 5] (by decide)), le_55, ho_60⟩)
 have hD_22 : ∀ (a : Act) (w_84 : World), (∃ (v_92 : Value) (v_93 : Value) (N_78 : Mem) (M_89 : Mem) (M_90 : Mem), Fr 144 a [(2, .pointer (some ⟨g_1, 0, none⟩)), (3, .pointer (some ⟨g_2, 0, none⟩)), (4, .pointer (some ⟨g_3, 0, none⟩)), (5, .pointer (some ⟨g_4, 0, none⟩)), (10, v_92), (11, .pointer (some ⟨g_1, 1, none⟩)), (14, v_93), (16, p0_2), (18, .pointer (some ⟨g_1, 3, none⟩))] ∧ Sep w0 w_84 [N_78, bx g_1 32 [p0_0, p0_1, p0_2, p0_3], bx g_2 24 (E24 x1 p1_4 p1_5 p1_6), bx g_3 32 [nS, nS, nS, nS], bx g_4 91 [iV 0, nS, iV 0], M_89, M_90] Z ∧ Mem.no.le N_78 ∧ Own Kd.u8 5 M_89 Mem.no v_92 t_1 ∧ Own (Kd.int .i64) 3 M_90 Mem.no v_93 ([] : List Int)) → GD_1 7 (bA 15 1487) a w_84 := by
  rintro a w_84 ⟨v_92, v_93, N_78, M_89, M_90, h, hS, le_57, ho_62, ho_63⟩
  refine (hGD_1 _ _ _ _).2 <| h_evs [4, 11] (by kernel_rfl) ⟨⟨_, (bA 15 1503), rfl, by kernel_rfl, ?_⟩, ⟨_, (bA 15 3535), rfl, by kernel_rfl, ?_⟩, trivial⟩
  ·refine s_load h rfl rfl (hS.load_one (p := 1) rfl U28 rfl rfl) fun a h=>wpList_nil <| x_then_n ⟨(hS.sub (.cons le_57 (.zz (.rr (.rr (.rr .nn)))))), ?_⟩
   exact (hGD_1 _ _ _ _).1 (hD_13 _ _ ⟨v_92, v_93, N_78, M_89, M_90, (h.to rfl), (hS.sel [0, 1, 2, 3, 4, 5, 6] (by decide)), le_57, ho_62, ho_63⟩)
  ·refine s_load h rfl rfl (hS.load_one (p := 1) rfl U30 rfl rfl) fun a h=>wpList_nil <| x_then_n ⟨(hS.sub (.cons le_57 (.zz (.rr (.rr (.rr .nn)))))), ?_⟩
   exact (hGD_1 _ _ _ _).1 (hD_16 _ _ ⟨v_92, v_93, N_78, M_89, M_90, (h.to rfl), (hS.sel [0, 1, 2, 3, 4, 5, 6] (by decide)), le_57, ho_62, ho_63⟩)
 have hD_23 : ∀ (a : Act) (w_85 : World), (∃ (v_94 : Value) (v_95 : Value) (N_79 : Mem) (M_91 : Mem) (M_92 : Mem), Fr 144 a [(2, .pointer (some ⟨g_1, 0, none⟩)), (3, .pointer (some ⟨g_2, 0, none⟩)), (4, .pointer (some ⟨g_3, 0, none⟩)), (5, .pointer (some ⟨g_4, 0, none⟩)), (10, v_94), (11, .pointer (some ⟨g_1, 1, none⟩)), (14, v_95), (15, .pointer (some ⟨g_1, 2, none⟩)), (19, p0_3)] ∧ Sep w0 w_85 [N_79, bx g_1 32 [p0_0, p0_1, p0_2, p0_3], bx g_2 24 (E24 x1 p1_4 p1_5 p1_6), bx g_3 32 [nS, nS, nS, nS], bx g_4 91 [iV 0, nS, iV 0], M_91, M_92] Z ∧ Mem.no.le N_79 ∧ Own Kd.u8 5 M_91 Mem.no v_94 t_1 ∧ Own (Kd.int .i64) 3 M_92 Mem.no v_95 ([] : List Int)) → GD_1 7 (bA 15 3279) a w_85 := by
  rintro a w_85 ⟨v_94, v_95, N_79, M_91, M_92, h, hS, le_58, ho_64, ho_65⟩
  refine (hGD_1 _ _ _ _).2 <| h_evs [4, 8] (by kernel_rfl) ⟨⟨_, (bA 15 3295), rfl, by kernel_rfl, ?_⟩, ⟨_, (bA 15 3535), rfl, by kernel_rfl, ?_⟩, trivial⟩
  ·refine s_load h rfl rfl (hS.load_one (p := 1) rfl U28 rfl rfl) fun a h=>wpList_nil <| x_then_n ⟨(hS.sub (.cons le_58 (.zz (.rr (.rr (.rr .nn)))))), ?_⟩
   exact (hGD_1 _ _ _ _).1 (hD_14 _ _ ⟨v_94, v_95, N_79, M_91, M_92, (h.to rfl), (hS.sel [0, 1, 2, 3, 4, 5, 6] (by decide)), le_58, ho_64, ho_65⟩)
  ·refine s_load h rfl rfl (hS.load_one (p := 1) rfl U29 rfl rfl) fun a h=>wpList_nil <| x_then_n ⟨(hS.sub (.cons le_58 (.zz (.rr (.rr (.rr .nn)))))), ?_⟩
   exact (hGD_1 _ _ _ _).1 (hD_16 _ _ ⟨v_94, v_95, N_79, M_91, M_92, (h.to rfl), (hS.sel [0, 1, 2, 3, 4, 5, 6] (by decide)), le_58, ho_64, ho_65⟩)
 have hD_24 : ∀ (a : Act) (w_86 : World), (∃ (v_96 : Value) (N_80 : Mem) (M_93 : Mem), Fr 144 a [(2, .pointer (some ⟨g_1, 0, none⟩)), (3, .pointer (some ⟨g_2, 0, none⟩)), (4, .pointer (some ⟨g_3, 0, none⟩)), (5, .pointer (some ⟨g_4, 0, none⟩)), (10, v_96), (11, .pointer (some ⟨g_1, 1, none⟩)), (16, p0_2), (19, p0_3)] ∧ Sep w0 w_86 [N_80, bx g_1 32 [p0_0, p0_1, p0_2, p0_3], bx g_2 24 (E24 x1 p1_4 p1_5 p1_6), bx g_3 32 [nS, nS, nS, nS], bx g_4 91 [iV 0, nS, iV 0], M_93] Z ∧ Mem.no.le N_80 ∧ Own Kd.u8 5 M_93 Mem.no v_96 t_1) → GD_1 7 (bA 15 3471) a w_86 := by
  rintro a w_86 ⟨v_96, N_80, M_93, h, hS, le_59, ho_66⟩
  refine (hGD_1 _ _ _ _).2 <| h_evs [4, 6] (by kernel_rfl) ⟨⟨_, (bA 15 3487), rfl, by kernel_rfl, ?_⟩, ⟨_, (bA 15 3535), rfl, by kernel_rfl, ?_⟩, trivial⟩
  ·refine s_load h rfl rfl (hS.load_one (p := 1) rfl U28 rfl rfl) fun a h=>wpList_nil <| x_then_n ⟨(hS.sub (.cons le_59 (.zz (.rr (.rr (.rr .nn)))))), ?_⟩
   exact (hGD_1 _ _ _ _).1 (hD_15 _ _ ⟨v_96, N_80, M_93, (h.to rfl), (hS.sel [0, 1, 2, 3, 4, 5] (by decide)), le_59, ho_66⟩)
  ·have hq_8 : Reps (Kd.int .i64) Mem.no ([] : List Int) _ := (Reps.nil (Kd.int .i64) _)
   refine s_buildSlice h rfl U29 ti3 rfl rfl rfl .nil rfl rfl rfl hS hq_8 rfl fun w_87 v_97 M_94 hS' ho_67 a h => ?_
   replace hS : Sep w0 w_87 [_, _, _, _, _, _, M_94] Z := hS'
   refine ne (hS.sub (.cons le_59 (.zz (.rr (.rr (.rr .nn)))))) fun hs => ?_
   exact (hGD_1 _ _ _ _).1 (hD_16 _ _ ⟨v_96, v_97, N_80, M_93, M_94, (h.to rfl), (hS.sel [0, 1, 2, 3, 4, 5, 6] (by decide)), le_59, ho_66, ho_67⟩)
 have hD_25 : ∀ (a : Act) (w_88 : World), (∃ (v_98 : Value) (N_81 : Mem) (M_95 : Mem), Fr 144 a [(2, .pointer (some ⟨g_1, 0, none⟩)), (3, .pointer (some ⟨g_2, 0, none⟩)), (4, .pointer (some ⟨g_3, 0, none⟩)), (5, .pointer (some ⟨g_4, 0, none⟩)), (9, p0_0), (12, p0_1), (14, v_98), (16, p0_2), (18, .pointer (some ⟨g_1, 3, none⟩))] ∧ Sep w0 w_88 [N_81, bx g_1 32 [p0_0, p0_1, p0_2, p0_3], bx g_2 24 (E24 x1 p1_4 p1_5 p1_6), bx g_3 32 [nS, nS, nS, nS], bx g_4 91 [iV 0, nS, iV 0], M_95] Z ∧ Mem.no.le N_81 ∧ Own (Kd.int .i64) 3 M_95 Mem.no v_98 ([] : List Int)) → GD_1 7 (bA 15 1499) a w_88 := by
  rintro a w_88 ⟨v_98, N_81, M_95, h, hS, le_60, ho_68⟩
  refine (hGD_1 _ _ _ _).2 <| h_evs [2, 11] (by kernel_rfl) ⟨⟨_, (bA 15 1503), rfl, by kernel_rfl, ?_⟩, ⟨_, (bA 15 3547), rfl, by kernel_rfl, ?_⟩, trivial⟩
  ·refine s_call h rfl Try.call101 rfl (hocketref4_own.calls x0.Reg _ t_1 w0 _ _ _ mr (hS.enter [] (by decide)) (hp0_0.mono (hA.trans (hS.le_zed []))) et_1) ?_
   rintro v_99 w_89 ⟨_, N_82, M_96, rfl, hS', hr_31⟩
   intro a h
   obtain ⟨N_83, hS'', le_61, ln_22⟩ := hS.call [] (by decide) rfl (l' := []) (ow := [_]) rfl hS'
   replace hS : Sep w0 w_89 [N_83, _, _, _, _, _, _] Z := hS''
   refine ne (hS.sub (.cons (le_60.trans le_61) (.zz (.rr (.rr (.rr .nn)))))) fun hs => ?_
   exact (hGD_1 _ _ _ _).1 (hD_13 _ _ ⟨v_99, v_98, N_83, M_96, M_95, (h.to rfl), (hS.sel [0, 1, 2, 3, 4, 6, 5] (by decide)), (le_60.trans le_61), hr_31, ho_68⟩)
  ·refine s_load h rfl rfl (hS.load_one (p := 1) rfl U30 rfl rfl) fun a h=>wpList_nil <| x_then_n ⟨(hS.sub (.cons le_60 (.zz (.rr (.rr (.rr .nn)))))), ?_⟩
   exact (hGD_1 _ _ _ _).1 (hD_17 _ _ ⟨v_98, N_81, M_95, (h.to rfl), (hS.sel [0, 1, 2, 3, 4, 5] (by decide)), le_60, ho_68⟩)
 have hD_26 : ∀ (a : Act) (w_90 : World), (∃ (v_100 : Value) (N_84 : Mem) (M_97 : Mem), Fr 144 a [(2, .pointer (some ⟨g_1, 0, none⟩)), (3, .pointer (some ⟨g_2, 0, none⟩)), (4, .pointer (some ⟨g_3, 0, none⟩)), (5, .pointer (some ⟨g_4, 0, none⟩)), (9, p0_0), (12, p0_1), (14, v_100), (15, .pointer (some ⟨g_1, 2, none⟩)), (19, p0_3)] ∧ Sep w0 w_90 [N_84, bx g_1 32 [p0_0, p0_1, p0_2, p0_3], bx g_2 24 (E24 x1 p1_4 p1_5 p1_6), bx g_3 32 [nS, nS, nS, nS], bx g_4 91 [iV 0, nS, iV 0], M_97] Z ∧ Mem.no.le N_84 ∧ Own (Kd.int .i64) 3 M_97 Mem.no v_100 ([] : List Int)) → GD_1 7 (bA 15 3291) a w_90 := by
  rintro a w_90 ⟨v_100, N_84, M_97, h, hS, le_62, ho_69⟩
  refine (hGD_1 _ _ _ _).2 <| h_evs [2, 8] (by kernel_rfl) ⟨⟨_, (bA 15 3295), rfl, by kernel_rfl, ?_⟩, ⟨_, (bA 15 3547), rfl, by kernel_rfl, ?_⟩, trivial⟩
  ·refine s_call h rfl Try.call101 rfl (hocketref4_own.calls x0.Reg _ t_1 w0 _ _ _ mr (hS.enter [] (by decide)) (hp0_0.mono (hA.trans (hS.le_zed []))) et_1) ?_
   rintro v_101 w_91 ⟨_, N_85, M_98, rfl, hS', hr_32⟩
   intro a h
   obtain ⟨N_86, hS'', le_63, ln_23⟩ := hS.call [] (by decide) rfl (l' := []) (ow := [_]) rfl hS'
   replace hS : Sep w0 w_91 [N_86, _, _, _, _, _, _] Z := hS''
   refine ne (hS.sub (.cons (le_62.trans le_63) (.zz (.rr (.rr (.rr .nn)))))) fun hs => ?_
   exact (hGD_1 _ _ _ _).1 (hD_14 _ _ ⟨v_101, v_100, N_86, M_98, M_97, (h.to rfl), (hS.sel [0, 1, 2, 3, 4, 6, 5] (by decide)), (le_62.trans le_63), hr_32, ho_69⟩)
  ·refine s_load h rfl rfl (hS.load_one (p := 1) rfl U29 rfl rfl) fun a h=>wpList_nil <| x_then_n ⟨(hS.sub (.cons le_62 (.zz (.rr (.rr (.rr .nn)))))), ?_⟩
   exact (hGD_1 _ _ _ _).1 (hD_17 _ _ ⟨v_100, N_84, M_97, (h.to rfl), (hS.sel [0, 1, 2, 3, 4, 5] (by decide)), le_62, ho_69⟩)
 have hD_27 : ∀ (a : Act) (w_92 : World), (∃ (N_87 : Mem), Fr 144 a [(2, .pointer (some ⟨g_1, 0, none⟩)), (3, .pointer (some ⟨g_2, 0, none⟩)), (4, .pointer (some ⟨g_3, 0, none⟩)), (5, .pointer (some ⟨g_4, 0, none⟩)), (9, p0_0), (12, p0_1), (16, p0_2), (19, p0_3)] ∧ Sep w0 w_92 [N_87, bx g_1 32 [p0_0, p0_1, p0_2, p0_3], bx g_2 24 (E24 x1 p1_4 p1_5 p1_6), bx g_3 32 [nS, nS, nS, nS], bx g_4 91 [iV 0, nS, iV 0]] Z ∧ Mem.no.le N_87) → GD_1 7 (bA 15 3483) a w_92 := by
  rintro a w_92 ⟨N_87, h, hS, le_64⟩
  refine (hGD_1 _ _ _ _).2 <| h_evs [2, 6] (by kernel_rfl) ⟨⟨_, (bA 15 3487), rfl, by kernel_rfl, ?_⟩, ⟨_, (bA 15 3547), rfl, by kernel_rfl, ?_⟩, trivial⟩
  ·refine s_call h rfl Try.call101 rfl (hocketref4_own.calls x0.Reg _ t_1 w0 _ _ _ mr (hS.enter [] (by decide)) (hp0_0.mono (hA.trans (hS.le_zed []))) et_1) ?_
   rintro v_102 w_93 ⟨_, N_88, M_99, rfl, hS', hr_33⟩
   intro a h
   obtain ⟨N_89, hS'', le_65, ln_24⟩ := hS.call [] (by decide) rfl (l' := []) (ow := [_]) rfl hS'
   replace hS : Sep w0 w_93 [N_89, _, _, _, _, _] Z := hS''
   refine ne (hS.sub (.cons (le_64.trans le_65) (.zz (.rr (.rr (.rr .nn)))))) fun hs => ?_
   exact (hGD_1 _ _ _ _).1 (hD_15 _ _ ⟨v_102, N_89, M_99, (h.to rfl), (hS.sel [0, 1, 2, 3, 4, 5] (by decide)), (le_64.trans le_65), hr_33⟩)
  ·have hq_9 : Reps (Kd.int .i64) Mem.no ([] : List Int) _ := (Reps.nil (Kd.int .i64) _)
   refine s_buildSlice h rfl U29 ti3 rfl rfl rfl .nil rfl rfl rfl hS hq_9 rfl fun w_94 v_103 M_100 hS' ho_70 a h => ?_
   replace hS : Sep w0 w_94 [_, _, _, _, _, M_100] Z := hS'
   refine ne (hS.sub (.cons le_64 (.zz (.rr (.rr (.rr .nn)))))) fun hs => ?_
   exact (hGD_1 _ _ _ _).1 (hD_17 _ _ ⟨v_103, N_87, M_100, (h.to rfl), (hS.sel [0, 1, 2, 3, 4, 5] (by decide)), le_64, ho_70⟩)
 have hD_28 : ∀ (a : Act) (w_95 : World), (∃ (v_104 : Value) (N_90 : Mem) (M_101 : Mem), Fr 144 a [(2, .pointer (some ⟨g_1, 0, none⟩)), (3, .pointer (some ⟨g_2, 0, none⟩)), (4, .pointer (some ⟨g_3, 0, none⟩)), (5, .pointer (some ⟨g_4, 0, none⟩)), (9, p0_0), (11, .pointer (some ⟨g_1, 1, none⟩)), (14, v_104), (16, p0_2), (19, p0_3)] ∧ Sep w0 w_95 [N_90, bx g_1 32 [p0_0, p0_1, p0_2, p0_3], bx g_2 24 (E24 x1 p1_4 p1_5 p1_6), bx g_3 32 [nS, nS, nS, nS], bx g_4 91 [iV 0, nS, iV 0], M_101] Z ∧ Mem.no.le N_90 ∧ Own (Kd.int .i64) 3 M_101 Mem.no v_104 ([] : List Int)) → GD_1 7 (bA 15 3531) a w_95 := by
  rintro a w_95 ⟨v_104, N_90, M_101, h, hS, le_66, ho_71⟩
  refine (hGD_1 _ _ _ _).2 <| h_evs [2, 4] (by kernel_rfl) ⟨⟨_, (bA 15 3535), rfl, by kernel_rfl, ?_⟩, ⟨_, (bA 15 3547), rfl, by kernel_rfl, ?_⟩, trivial⟩
  ·refine s_call h rfl Try.call101 rfl (hocketref4_own.calls x0.Reg _ t_1 w0 _ _ _ mr (hS.enter [] (by decide)) (hp0_0.mono (hA.trans (hS.le_zed []))) et_1) ?_
   rintro v_105 w_96 ⟨_, N_91, M_102, rfl, hS', hr_34⟩
   intro a h
   obtain ⟨N_92, hS'', le_67, ln_25⟩ := hS.call [] (by decide) rfl (l' := []) (ow := [_]) rfl hS'
   replace hS : Sep w0 w_96 [N_92, _, _, _, _, _, _] Z := hS''
   refine ne (hS.sub (.cons (le_66.trans le_67) (.zz (.rr (.rr (.rr .nn)))))) fun hs => ?_
   exact (hGD_1 _ _ _ _).1 (hD_16 _ _ ⟨v_105, v_104, N_92, M_102, M_101, (h.to rfl), (hS.sel [0, 1, 2, 3, 4, 6, 5] (by decide)), (le_66.trans le_67), hr_34, ho_71⟩)
  ·refine s_load h rfl rfl (hS.load_one (p := 1) rfl U28 rfl rfl) fun a h=>wpList_nil <| x_then_n ⟨(hS.sub (.cons le_66 (.zz (.rr (.rr (.rr .nn)))))), ?_⟩
   exact (hGD_1 _ _ _ _).1 (hD_17 _ _ ⟨v_104, N_90, M_101, (h.to rfl), (hS.sel [0, 1, 2, 3, 4, 5] (by decide)), le_66, ho_71⟩)
 have hD_29 : ∀ (a : Act) (w_97 : World), (∃ (v_106 : Value) (N_93 : Mem) (M_103 : Mem), Fr 144 a [(2, .pointer (some ⟨g_1, 0, none⟩)), (3, .pointer (some ⟨g_2, 0, none⟩)), (4, .pointer (some ⟨g_3, 0, none⟩)), (5, .pointer (some ⟨g_4, 0, none⟩)), (8, .pointer (some ⟨g_1, 0, none⟩)), (12, p0_1), (14, v_106), (16, p0_2), (19, p0_3)] ∧ Sep w0 w_97 [N_93, bx g_1 32 [p0_0, p0_1, p0_2, p0_3], bx g_2 24 (E24 x1 p1_4 p1_5 p1_6), bx g_3 32 [nS, nS, nS, nS], bx g_4 91 [iV 0, nS, iV 0], M_103] Z ∧ Mem.no.le N_93 ∧ Own (Kd.int .i64) 3 M_103 Mem.no v_106 ([] : List Int)) → GD_1 7 (bA 15 3545) a w_97 := by
  rintro a w_97 ⟨v_106, N_93, M_103, h, hS, le_68, ho_72⟩
  refine (hGD_1 _ _ _ _).2 <| h_events [1] (by kernel_rfl) (by simp) ?_
  intro i hi; simp only [List.mem_cons, List.not_mem_nil, or_false] at hi; rcases hi with rfl
  refine ⟨_, (bA 15 3547), rfl, by kernel_rfl, ?_⟩
  refine s_load h rfl rfl (hS.load_one (p := 1) rfl U22 rfl rfl) fun a h=>wpList_nil <| x_then_n ⟨(hS.sub (.cons le_68 (.zz (.rr (.rr (.rr .nn)))))), ?_⟩
  exact (hGD_1 _ _ _ _).1 (hD_17 _ _ ⟨v_106, N_93, M_103, (h.to rfl), (hS.sel [0, 1, 2, 3, 4, 5] (by decide)), le_68, ho_72⟩)
 have hD_30 : ∀ (a : Act) (w_98 : World), (∃ (v_107 : Value) (N_94 : Mem) (M_104 : Mem), Fr 144 a [(2, .pointer (some ⟨g_1, 0, none⟩)), (3, .pointer (some ⟨g_2, 0, none⟩)), (4, .pointer (some ⟨g_3, 0, none⟩)), (5, .pointer (some ⟨g_4, 0, none⟩)), (10, v_107), (12, p0_1), (15, .pointer (some ⟨g_1, 2, none⟩)), (18, .pointer (some ⟨g_1, 3, none⟩))] ∧ Sep w0 w_98 [N_94, bx g_1 32 [p0_0, p0_1, p0_2, p0_3], bx g_2 24 (E24 x1 p1_4 p1_5 p1_6), bx g_3 32 [nS, nS, nS, nS], bx g_4 91 [iV 0, nS, iV 0], M_104] Z ∧ Mem.no.le N_94 ∧ Own Kd.u8 5 M_104 Mem.no v_107 t_1) → GD_1 8 (bA 15 1183) a w_98 := by
  rintro a w_98 ⟨v_107, N_94, M_104, h, hS, le_69, ho_73⟩
  refine (hGD_1 _ _ _ _).2 <| h_evs [5, 6, 8, 11] (by kernel_rfl) ⟨⟨_, (bA 15 1215), rfl, by kernel_rfl, ?_⟩, ⟨_, (bA 15 1247), rfl, by kernel_rfl, ?_⟩, ⟨_, (bA 15 1439), rfl, by kernel_rfl, ?_⟩, ⟨_, (bA 15 3231), rfl, by kernel_rfl, ?_⟩, trivial⟩
  ·refine s_call h rfl Try.call102 rfl (hocketref4_rows.calls K x0.Queue _ t_2 w0 _ _ _ mr (hS.enter [] (by decide)) (hp0_1.mono (hA.trans (hS.le_zed []))) et_2) ?_
   rintro v_108 w_99 ⟨_, N_95, M_105, rfl, hS', hr_35⟩
   intro a h
   obtain ⟨N_96, hS'', le_70, ln_26⟩ := hS.call [] (by decide) rfl (l' := []) (ow := [_]) rfl hS'
   replace hS : Sep w0 w_99 [N_96, _, _, _, _, _, _] Z := hS''
   refine ne (hS.sub (.cons (le_69.trans le_70) (.zz (.rr (.rr (.rr .nn)))))) fun hs => ?_
   exact (hGD_1 _ _ _ _).1 (hD_18 _ _ ⟨v_107, v_108, N_96, M_104, M_105, (h.to rfl), (hS.sel [0, 1, 2, 3, 4, 5, 6] (by decide)), (le_69.trans le_70), ho_73, ((hr_35.mono ln_26).mono mr)⟩)
  ·have hq_10 : Reps (Kd.int .i64) Mem.no ([] : List Int) _ := (Reps.nil (Kd.int .i64) _)
   refine s_buildSlice h rfl U29 ti3 rfl rfl rfl .nil rfl rfl rfl hS hq_10 rfl fun w_100 v_109 M_106 hS' ho_74 a h => ?_
   replace hS : Sep w0 w_100 [_, _, _, _, _, _, M_106] Z := hS'
   refine ne (hS.sub (.cons le_69 (.zz (.rr (.rr (.rr .nn)))))) fun hs => ?_
   exact (hGD_1 _ _ _ _).1 (hD_19 _ _ ⟨v_107, v_109, N_94, M_104, M_106, (h.to rfl), (hS.sel [0, 1, 2, 3, 4, 5, 6] (by decide)), le_69, ho_73, ho_74⟩)
  ·refine s_load h rfl rfl (hS.load_one (p := 1) rfl U29 rfl rfl) fun a h=>wpList_nil <| x_then_n ⟨(hS.sub (.cons le_69 (.zz (.rr (.rr (.rr .nn)))))), ?_⟩
   exact (hGD_1 _ _ _ _).1 (hD_20 _ _ ⟨v_107, N_94, M_104, (h.to rfl), (hS.sel [0, 1, 2, 3, 4, 5] (by decide)), le_69, ho_73⟩)
  ·refine s_load h rfl rfl (hS.load_one (p := 1) rfl U30 rfl rfl) fun a h=>wpList_nil <| x_then_n ⟨(hS.sub (.cons le_69 (.zz (.rr (.rr (.rr .nn)))))), ?_⟩
   exact (hGD_1 _ _ _ _).1 (hD_21 _ _ ⟨v_107, N_94, M_104, (h.to rfl), (hS.sel [0, 1, 2, 3, 4, 5] (by decide)), le_69, ho_73⟩)
 have hD_31 : ∀ (a : Act) (w_101 : World), (∃ (v_110 : Value) (v_111 : Value) (N_97 : Mem) (M_107 : Mem) (M_108 : Mem), Fr 144 a [(2, .pointer (some ⟨g_1, 0, none⟩)), (3, .pointer (some ⟨g_2, 0, none⟩)), (4, .pointer (some ⟨g_3, 0, none⟩)), (5, .pointer (some ⟨g_4, 0, none⟩)), (10, v_110), (11, .pointer (some ⟨g_1, 1, none⟩)), (14, v_111), (15, .pointer (some ⟨g_1, 2, none⟩)), (18, .pointer (some ⟨g_1, 3, none⟩))] ∧ Sep w0 w_101 [N_97, bx g_1 32 [p0_0, p0_1, p0_2, p0_3], bx g_2 24 (E24 x1 p1_4 p1_5 p1_6), bx g_3 32 [nS, nS, nS, nS], bx g_4 91 [iV 0, nS, iV 0], M_107, M_108] Z ∧ Mem.no.le N_97 ∧ Own Kd.u8 5 M_107 Mem.no v_110 t_1 ∧ Own (Kd.int .i64) 3 M_108 Mem.no v_111 ([] : List Int)) → GD_1 8 (bA 15 1231) a w_101 := by
  rintro a w_101 ⟨v_110, v_111, N_97, M_107, M_108, h, hS, le_71, ho_75, ho_76⟩
  refine (hGD_1 _ _ _ _).2 <| h_evs [4, 8, 11] (by kernel_rfl) ⟨⟨_, (bA 15 1247), rfl, by kernel_rfl, ?_⟩, ⟨_, (bA 15 1487), rfl, by kernel_rfl, ?_⟩, ⟨_, (bA 15 3279), rfl, by kernel_rfl, ?_⟩, trivial⟩
  ·refine s_load h rfl rfl (hS.load_one (p := 1) rfl U28 rfl rfl) fun a h=>wpList_nil <| x_then_n ⟨(hS.sub (.cons le_71 (.zz (.rr (.rr (.rr .nn)))))), ?_⟩
   exact (hGD_1 _ _ _ _).1 (hD_19 _ _ ⟨v_110, v_111, N_97, M_107, M_108, (h.to rfl), (hS.sel [0, 1, 2, 3, 4, 5, 6] (by decide)), le_71, ho_75, ho_76⟩)
  ·refine s_load h rfl rfl (hS.load_one (p := 1) rfl U29 rfl rfl) fun a h=>wpList_nil <| x_then_n ⟨(hS.sub (.cons le_71 (.zz (.rr (.rr (.rr .nn)))))), ?_⟩
   exact (hGD_1 _ _ _ _).1 (hD_22 _ _ ⟨v_110, v_111, N_97, M_107, M_108, (h.to rfl), (hS.sel [0, 1, 2, 3, 4, 5, 6] (by decide)), le_71, ho_75, ho_76⟩)
  ·refine s_load h rfl rfl (hS.load_one (p := 1) rfl U30 rfl rfl) fun a h=>wpList_nil <| x_then_n ⟨(hS.sub (.cons le_71 (.zz (.rr (.rr (.rr .nn)))))), ?_⟩
   exact (hGD_1 _ _ _ _).1 (hD_23 _ _ ⟨v_110, v_111, N_97, M_107, M_108, (h.to rfl), (hS.sel [0, 1, 2, 3, 4, 5, 6] (by decide)), le_71, ho_75, ho_76⟩)
 have hD_32 : ∀ (a : Act) (w_102 : World), (∃ (v_112 : Value) (N_98 : Mem) (M_109 : Mem), Fr 144 a [(2, .pointer (some ⟨g_1, 0, none⟩)), (3, .pointer (some ⟨g_2, 0, none⟩)), (4, .pointer (some ⟨g_3, 0, none⟩)), (5, .pointer (some ⟨g_4, 0, none⟩)), (10, v_112), (11, .pointer (some ⟨g_1, 1, none⟩)), (16, p0_2), (18, .pointer (some ⟨g_1, 3, none⟩))] ∧ Sep w0 w_102 [N_98, bx g_1 32 [p0_0, p0_1, p0_2, p0_3], bx g_2 24 (E24 x1 p1_4 p1_5 p1_6), bx g_3 32 [nS, nS, nS, nS], bx g_4 91 [iV 0, nS, iV 0], M_109] Z ∧ Mem.no.le N_98 ∧ Own Kd.u8 5 M_109 Mem.no v_112 t_1) → GD_1 8 (bA 15 1423) a w_102 := by
  rintro a w_102 ⟨v_112, N_98, M_109, h, hS, le_72, ho_77⟩
  refine (hGD_1 _ _ _ _).2 <| h_evs [4, 6, 11] (by kernel_rfl) ⟨⟨_, (bA 15 1439), rfl, by kernel_rfl, ?_⟩, ⟨_, (bA 15 1487), rfl, by kernel_rfl, ?_⟩, ⟨_, (bA 15 3471), rfl, by kernel_rfl, ?_⟩, trivial⟩
  ·refine s_load h rfl rfl (hS.load_one (p := 1) rfl U28 rfl rfl) fun a h=>wpList_nil <| x_then_n ⟨(hS.sub (.cons le_72 (.zz (.rr (.rr (.rr .nn)))))), ?_⟩
   exact (hGD_1 _ _ _ _).1 (hD_20 _ _ ⟨v_112, N_98, M_109, (h.to rfl), (hS.sel [0, 1, 2, 3, 4, 5] (by decide)), le_72, ho_77⟩)
  ·have hq_11 : Reps (Kd.int .i64) Mem.no ([] : List Int) _ := (Reps.nil (Kd.int .i64) _)
   refine s_buildSlice h rfl U29 ti3 rfl rfl rfl .nil rfl rfl rfl hS hq_11 rfl fun w_103 v_113 M_110 hS' ho_78 a h => ?_
   replace hS : Sep w0 w_103 [_, _, _, _, _, _, M_110] Z := hS'
   refine ne (hS.sub (.cons le_72 (.zz (.rr (.rr (.rr .nn)))))) fun hs => ?_
   exact (hGD_1 _ _ _ _).1 (hD_22 _ _ ⟨v_112, v_113, N_98, M_109, M_110, (h.to rfl), (hS.sel [0, 1, 2, 3, 4, 5, 6] (by decide)), le_72, ho_77, ho_78⟩)
  ·refine s_load h rfl rfl (hS.load_one (p := 1) rfl U30 rfl rfl) fun a h=>wpList_nil <| x_then_n ⟨(hS.sub (.cons le_72 (.zz (.rr (.rr (.rr .nn)))))), ?_⟩
   exact (hGD_1 _ _ _ _).1 (hD_24 _ _ ⟨v_112, N_98, M_109, (h.to rfl), (hS.sel [0, 1, 2, 3, 4, 5] (by decide)), le_72, ho_77⟩)
 have hD_33 : ∀ (a : Act) (w_104 : World), (∃ (v_114 : Value) (N_99 : Mem) (M_111 : Mem), Fr 144 a [(2, .pointer (some ⟨g_1, 0, none⟩)), (3, .pointer (some ⟨g_2, 0, none⟩)), (4, .pointer (some ⟨g_3, 0, none⟩)), (5, .pointer (some ⟨g_4, 0, none⟩)), (10, v_114), (11, .pointer (some ⟨g_1, 1, none⟩)), (15, .pointer (some ⟨g_1, 2, none⟩)), (19, p0_3)] ∧ Sep w0 w_104 [N_99, bx g_1 32 [p0_0, p0_1, p0_2, p0_3], bx g_2 24 (E24 x1 p1_4 p1_5 p1_6), bx g_3 32 [nS, nS, nS, nS], bx g_4 91 [iV 0, nS, iV 0], M_111] Z ∧ Mem.no.le N_99 ∧ Own Kd.u8 5 M_111 Mem.no v_114 t_1) → GD_1 8 (bA 15 3215) a w_104 := by
  rintro a w_104 ⟨v_114, N_99, M_111, h, hS, le_73, ho_79⟩
  refine (hGD_1 _ _ _ _).2 <| h_evs [4, 6, 8] (by kernel_rfl) ⟨⟨_, (bA 15 3231), rfl, by kernel_rfl, ?_⟩, ⟨_, (bA 15 3279), rfl, by kernel_rfl, ?_⟩, ⟨_, (bA 15 3471), rfl, by kernel_rfl, ?_⟩, trivial⟩
  ·refine s_load h rfl rfl (hS.load_one (p := 1) rfl U28 rfl rfl) fun a h=>wpList_nil <| x_then_n ⟨(hS.sub (.cons le_73 (.zz (.rr (.rr (.rr .nn)))))), ?_⟩
   exact (hGD_1 _ _ _ _).1 (hD_21 _ _ ⟨v_114, N_99, M_111, (h.to rfl), (hS.sel [0, 1, 2, 3, 4, 5] (by decide)), le_73, ho_79⟩)
  ·have hq_12 : Reps (Kd.int .i64) Mem.no ([] : List Int) _ := (Reps.nil (Kd.int .i64) _)
   refine s_buildSlice h rfl U29 ti3 rfl rfl rfl .nil rfl rfl rfl hS hq_12 rfl fun w_105 v_115 M_112 hS' ho_80 a h => ?_
   replace hS : Sep w0 w_105 [_, _, _, _, _, _, M_112] Z := hS'
   refine ne (hS.sub (.cons le_73 (.zz (.rr (.rr (.rr .nn)))))) fun hs => ?_
   exact (hGD_1 _ _ _ _).1 (hD_23 _ _ ⟨v_114, v_115, N_99, M_111, M_112, (h.to rfl), (hS.sel [0, 1, 2, 3, 4, 5, 6] (by decide)), le_73, ho_79, ho_80⟩)
  ·refine s_load h rfl rfl (hS.load_one (p := 1) rfl U29 rfl rfl) fun a h=>wpList_nil <| x_then_n ⟨(hS.sub (.cons le_73 (.zz (.rr (.rr (.rr .nn)))))), ?_⟩
   exact (hGD_1 _ _ _ _).1 (hD_24 _ _ ⟨v_114, N_99, M_111, (h.to rfl), (hS.sel [0, 1, 2, 3, 4, 5] (by decide)), le_73, ho_79⟩)
 have hD_34 : ∀ (a : Act) (w_106 : World), (∃ (v_116 : Value) (N_100 : Mem) (M_113 : Mem), Fr 144 a [(2, .pointer (some ⟨g_1, 0, none⟩)), (3, .pointer (some ⟨g_2, 0, none⟩)), (4, .pointer (some ⟨g_3, 0, none⟩)), (5, .pointer (some ⟨g_4, 0, none⟩)), (9, p0_0), (12, p0_1), (14, v_116), (15, .pointer (some ⟨g_1, 2, none⟩)), (18, .pointer (some ⟨g_1, 3, none⟩))] ∧ Sep w0 w_106 [N_100, bx g_1 32 [p0_0, p0_1, p0_2, p0_3], bx g_2 24 (E24 x1 p1_4 p1_5 p1_6), bx g_3 32 [nS, nS, nS, nS], bx g_4 91 [iV 0, nS, iV 0], M_113] Z ∧ Mem.no.le N_100 ∧ Own (Kd.int .i64) 3 M_113 Mem.no v_116 ([] : List Int)) → GD_1 8 (bA 15 1243) a w_106 := by
  rintro a w_106 ⟨v_116, N_100, M_113, h, hS, le_74, ho_81⟩
  refine (hGD_1 _ _ _ _).2 <| h_evs [2, 8, 11] (by kernel_rfl) ⟨⟨_, (bA 15 1247), rfl, by kernel_rfl, ?_⟩, ⟨_, (bA 15 1499), rfl, by kernel_rfl, ?_⟩, ⟨_, (bA 15 3291), rfl, by kernel_rfl, ?_⟩, trivial⟩
  ·refine s_call h rfl Try.call101 rfl (hocketref4_own.calls x0.Reg _ t_1 w0 _ _ _ mr (hS.enter [] (by decide)) (hp0_0.mono (hA.trans (hS.le_zed []))) et_1) ?_
   rintro v_117 w_107 ⟨_, N_101, M_114, rfl, hS', hr_36⟩
   intro a h
   obtain ⟨N_102, hS'', le_75, ln_27⟩ := hS.call [] (by decide) rfl (l' := []) (ow := [_]) rfl hS'
   replace hS : Sep w0 w_107 [N_102, _, _, _, _, _, _] Z := hS''
   refine ne (hS.sub (.cons (le_74.trans le_75) (.zz (.rr (.rr (.rr .nn)))))) fun hs => ?_
   exact (hGD_1 _ _ _ _).1 (hD_19 _ _ ⟨v_117, v_116, N_102, M_114, M_113, (h.to rfl), (hS.sel [0, 1, 2, 3, 4, 6, 5] (by decide)), (le_74.trans le_75), hr_36, ho_81⟩)
  ·refine s_load h rfl rfl (hS.load_one (p := 1) rfl U29 rfl rfl) fun a h=>wpList_nil <| x_then_n ⟨(hS.sub (.cons le_74 (.zz (.rr (.rr (.rr .nn)))))), ?_⟩
   exact (hGD_1 _ _ _ _).1 (hD_25 _ _ ⟨v_116, N_100, M_113, (h.to rfl), (hS.sel [0, 1, 2, 3, 4, 5] (by decide)), le_74, ho_81⟩)
  ·refine s_load h rfl rfl (hS.load_one (p := 1) rfl U30 rfl rfl) fun a h=>wpList_nil <| x_then_n ⟨(hS.sub (.cons le_74 (.zz (.rr (.rr (.rr .nn)))))), ?_⟩
   exact (hGD_1 _ _ _ _).1 (hD_26 _ _ ⟨v_116, N_100, M_113, (h.to rfl), (hS.sel [0, 1, 2, 3, 4, 5] (by decide)), le_74, ho_81⟩)
 have hD_35 : ∀ (a : Act) (w_108 : World), (∃ (N_103 : Mem), Fr 144 a [(2, .pointer (some ⟨g_1, 0, none⟩)), (3, .pointer (some ⟨g_2, 0, none⟩)), (4, .pointer (some ⟨g_3, 0, none⟩)), (5, .pointer (some ⟨g_4, 0, none⟩)), (9, p0_0), (12, p0_1), (16, p0_2), (18, .pointer (some ⟨g_1, 3, none⟩))] ∧ Sep w0 w_108 [N_103, bx g_1 32 [p0_0, p0_1, p0_2, p0_3], bx g_2 24 (E24 x1 p1_4 p1_5 p1_6), bx g_3 32 [nS, nS, nS, nS], bx g_4 91 [iV 0, nS, iV 0]] Z ∧ Mem.no.le N_103) → GD_1 8 (bA 15 1435) a w_108 := by
  rintro a w_108 ⟨N_103, h, hS, le_76⟩
  refine (hGD_1 _ _ _ _).2 <| h_evs [2, 6, 11] (by kernel_rfl) ⟨⟨_, (bA 15 1439), rfl, by kernel_rfl, ?_⟩, ⟨_, (bA 15 1499), rfl, by kernel_rfl, ?_⟩, ⟨_, (bA 15 3483), rfl, by kernel_rfl, ?_⟩, trivial⟩
  ·refine s_call h rfl Try.call101 rfl (hocketref4_own.calls x0.Reg _ t_1 w0 _ _ _ mr (hS.enter [] (by decide)) (hp0_0.mono (hA.trans (hS.le_zed []))) et_1) ?_
   rintro v_118 w_109 ⟨_, N_104, M_115, rfl, hS', hr_37⟩
   intro a h
   obtain ⟨N_105, hS'', le_77, ln_28⟩ := hS.call [] (by decide) rfl (l' := []) (ow := [_]) rfl hS'
   replace hS : Sep w0 w_109 [N_105, _, _, _, _, _] Z := hS''
   refine ne (hS.sub (.cons (le_76.trans le_77) (.zz (.rr (.rr (.rr .nn)))))) fun hs => ?_
   exact (hGD_1 _ _ _ _).1 (hD_20 _ _ ⟨v_118, N_105, M_115, (h.to rfl), (hS.sel [0, 1, 2, 3, 4, 5] (by decide)), (le_76.trans le_77), hr_37⟩)
  ·have hq_13 : Reps (Kd.int .i64) Mem.no ([] : List Int) _ := (Reps.nil (Kd.int .i64) _)
   refine s_buildSlice h rfl U29 ti3 rfl rfl rfl .nil rfl rfl rfl hS hq_13 rfl fun w_110 v_119 M_116 hS' ho_82 a h => ?_
   replace hS : Sep w0 w_110 [_, _, _, _, _, M_116] Z := hS'
   refine ne (hS.sub (.cons le_76 (.zz (.rr (.rr (.rr .nn)))))) fun hs => ?_
   exact (hGD_1 _ _ _ _).1 (hD_25 _ _ ⟨v_119, N_103, M_116, (h.to rfl), (hS.sel [0, 1, 2, 3, 4, 5] (by decide)), le_76, ho_82⟩)
  ·refine s_load h rfl rfl (hS.load_one (p := 1) rfl U30 rfl rfl) fun a h=>wpList_nil <| x_then_n ⟨(hS.sub (.cons le_76 (.zz .ii))), ?_⟩
   exact (hGD_1 _ _ _ _).1 (hD_27 _ _ ⟨N_103, (h.to rfl), (hS.sel [0, 1, 2, 3, 4] (by decide)), le_76⟩)
 have hD_36 : ∀ (a : Act) (w_111 : World), (∃ (N_106 : Mem), Fr 144 a [(2, .pointer (some ⟨g_1, 0, none⟩)), (3, .pointer (some ⟨g_2, 0, none⟩)), (4, .pointer (some ⟨g_3, 0, none⟩)), (5, .pointer (some ⟨g_4, 0, none⟩)), (9, p0_0), (12, p0_1), (15, .pointer (some ⟨g_1, 2, none⟩)), (19, p0_3)] ∧ Sep w0 w_111 [N_106, bx g_1 32 [p0_0, p0_1, p0_2, p0_3], bx g_2 24 (E24 x1 p1_4 p1_5 p1_6), bx g_3 32 [nS, nS, nS, nS], bx g_4 91 [iV 0, nS, iV 0]] Z ∧ Mem.no.le N_106) → GD_1 8 (bA 15 3227) a w_111 := by
  rintro a w_111 ⟨N_106, h, hS, le_78⟩
  refine (hGD_1 _ _ _ _).2 <| h_evs [2, 6, 8] (by kernel_rfl) ⟨⟨_, (bA 15 3231), rfl, by kernel_rfl, ?_⟩, ⟨_, (bA 15 3291), rfl, by kernel_rfl, ?_⟩, ⟨_, (bA 15 3483), rfl, by kernel_rfl, ?_⟩, trivial⟩
  ·refine s_call h rfl Try.call101 rfl (hocketref4_own.calls x0.Reg _ t_1 w0 _ _ _ mr (hS.enter [] (by decide)) (hp0_0.mono (hA.trans (hS.le_zed []))) et_1) ?_
   rintro v_120 w_112 ⟨_, N_107, M_117, rfl, hS', hr_38⟩
   intro a h
   obtain ⟨N_108, hS'', le_79, ln_29⟩ := hS.call [] (by decide) rfl (l' := []) (ow := [_]) rfl hS'
   replace hS : Sep w0 w_112 [N_108, _, _, _, _, _] Z := hS''
   refine ne (hS.sub (.cons (le_78.trans le_79) (.zz (.rr (.rr (.rr .nn)))))) fun hs => ?_
   exact (hGD_1 _ _ _ _).1 (hD_21 _ _ ⟨v_120, N_108, M_117, (h.to rfl), (hS.sel [0, 1, 2, 3, 4, 5] (by decide)), (le_78.trans le_79), hr_38⟩)
  ·have hq_14 : Reps (Kd.int .i64) Mem.no ([] : List Int) _ := (Reps.nil (Kd.int .i64) _)
   refine s_buildSlice h rfl U29 ti3 rfl rfl rfl .nil rfl rfl rfl hS hq_14 rfl fun w_113 v_121 M_118 hS' ho_83 a h => ?_
   replace hS : Sep w0 w_113 [_, _, _, _, _, M_118] Z := hS'
   refine ne (hS.sub (.cons le_78 (.zz (.rr (.rr (.rr .nn)))))) fun hs => ?_
   exact (hGD_1 _ _ _ _).1 (hD_26 _ _ ⟨v_121, N_106, M_118, (h.to rfl), (hS.sel [0, 1, 2, 3, 4, 5] (by decide)), le_78, ho_83⟩)
  ·refine s_load h rfl rfl (hS.load_one (p := 1) rfl U29 rfl rfl) fun a h=>wpList_nil <| x_then_n ⟨(hS.sub (.cons le_78 (.zz .ii))), ?_⟩
   exact (hGD_1 _ _ _ _).1 (hD_27 _ _ ⟨N_106, (h.to rfl), (hS.sel [0, 1, 2, 3, 4] (by decide)), le_78⟩)
 have hD_37 : ∀ (a : Act) (w_114 : World), (∃ (v_122 : Value) (N_109 : Mem) (M_119 : Mem), Fr 144 a [(2, .pointer (some ⟨g_1, 0, none⟩)), (3, .pointer (some ⟨g_2, 0, none⟩)), (4, .pointer (some ⟨g_3, 0, none⟩)), (5, .pointer (some ⟨g_4, 0, none⟩)), (9, p0_0), (11, .pointer (some ⟨g_1, 1, none⟩)), (14, v_122), (16, p0_2), (18, .pointer (some ⟨g_1, 3, none⟩))] ∧ Sep w0 w_114 [N_109, bx g_1 32 [p0_0, p0_1, p0_2, p0_3], bx g_2 24 (E24 x1 p1_4 p1_5 p1_6), bx g_3 32 [nS, nS, nS, nS], bx g_4 91 [iV 0, nS, iV 0], M_119] Z ∧ Mem.no.le N_109 ∧ Own (Kd.int .i64) 3 M_119 Mem.no v_122 ([] : List Int)) → GD_1 8 (bA 15 1483) a w_114 := by
  rintro a w_114 ⟨v_122, N_109, M_119, h, hS, le_80, ho_84⟩
  refine (hGD_1 _ _ _ _).2 <| h_evs [2, 4, 11] (by kernel_rfl) ⟨⟨_, (bA 15 1487), rfl, by kernel_rfl, ?_⟩, ⟨_, (bA 15 1499), rfl, by kernel_rfl, ?_⟩, ⟨_, (bA 15 3531), rfl, by kernel_rfl, ?_⟩, trivial⟩
  ·refine s_call h rfl Try.call101 rfl (hocketref4_own.calls x0.Reg _ t_1 w0 _ _ _ mr (hS.enter [] (by decide)) (hp0_0.mono (hA.trans (hS.le_zed []))) et_1) ?_
   rintro v_123 w_115 ⟨_, N_110, M_120, rfl, hS', hr_39⟩
   intro a h
   obtain ⟨N_111, hS'', le_81, ln_30⟩ := hS.call [] (by decide) rfl (l' := []) (ow := [_]) rfl hS'
   replace hS : Sep w0 w_115 [N_111, _, _, _, _, _, _] Z := hS''
   refine ne (hS.sub (.cons (le_80.trans le_81) (.zz (.rr (.rr (.rr .nn)))))) fun hs => ?_
   exact (hGD_1 _ _ _ _).1 (hD_22 _ _ ⟨v_123, v_122, N_111, M_120, M_119, (h.to rfl), (hS.sel [0, 1, 2, 3, 4, 6, 5] (by decide)), (le_80.trans le_81), hr_39, ho_84⟩)
  ·refine s_load h rfl rfl (hS.load_one (p := 1) rfl U28 rfl rfl) fun a h=>wpList_nil <| x_then_n ⟨(hS.sub (.cons le_80 (.zz (.rr (.rr (.rr .nn)))))), ?_⟩
   exact (hGD_1 _ _ _ _).1 (hD_25 _ _ ⟨v_122, N_109, M_119, (h.to rfl), (hS.sel [0, 1, 2, 3, 4, 5] (by decide)), le_80, ho_84⟩)
  ·refine s_load h rfl rfl (hS.load_one (p := 1) rfl U30 rfl rfl) fun a h=>wpList_nil <| x_then_n ⟨(hS.sub (.cons le_80 (.zz (.rr (.rr (.rr .nn)))))), ?_⟩
   exact (hGD_1 _ _ _ _).1 (hD_28 _ _ ⟨v_122, N_109, M_119, (h.to rfl), (hS.sel [0, 1, 2, 3, 4, 5] (by decide)), le_80, ho_84⟩)
 have hD_38 : ∀ (a : Act) (w_116 : World), (∃ (v_124 : Value) (N_112 : Mem) (M_121 : Mem), Fr 144 a [(2, .pointer (some ⟨g_1, 0, none⟩)), (3, .pointer (some ⟨g_2, 0, none⟩)), (4, .pointer (some ⟨g_3, 0, none⟩)), (5, .pointer (some ⟨g_4, 0, none⟩)), (9, p0_0), (11, .pointer (some ⟨g_1, 1, none⟩)), (14, v_124), (15, .pointer (some ⟨g_1, 2, none⟩)), (19, p0_3)] ∧ Sep w0 w_116 [N_112, bx g_1 32 [p0_0, p0_1, p0_2, p0_3], bx g_2 24 (E24 x1 p1_4 p1_5 p1_6), bx g_3 32 [nS, nS, nS, nS], bx g_4 91 [iV 0, nS, iV 0], M_121] Z ∧ Mem.no.le N_112 ∧ Own (Kd.int .i64) 3 M_121 Mem.no v_124 ([] : List Int)) → GD_1 8 (bA 15 3275) a w_116 := by
  rintro a w_116 ⟨v_124, N_112, M_121, h, hS, le_82, ho_85⟩
  refine (hGD_1 _ _ _ _).2 <| h_evs [2, 4, 8] (by kernel_rfl) ⟨⟨_, (bA 15 3279), rfl, by kernel_rfl, ?_⟩, ⟨_, (bA 15 3291), rfl, by kernel_rfl, ?_⟩, ⟨_, (bA 15 3531), rfl, by kernel_rfl, ?_⟩, trivial⟩
  ·refine s_call h rfl Try.call101 rfl (hocketref4_own.calls x0.Reg _ t_1 w0 _ _ _ mr (hS.enter [] (by decide)) (hp0_0.mono (hA.trans (hS.le_zed []))) et_1) ?_
   rintro v_125 w_117 ⟨_, N_113, M_122, rfl, hS', hr_40⟩
   intro a h
   obtain ⟨N_114, hS'', le_83, ln_31⟩ := hS.call [] (by decide) rfl (l' := []) (ow := [_]) rfl hS'
   replace hS : Sep w0 w_117 [N_114, _, _, _, _, _, _] Z := hS''
   refine ne (hS.sub (.cons (le_82.trans le_83) (.zz (.rr (.rr (.rr .nn)))))) fun hs => ?_
   exact (hGD_1 _ _ _ _).1 (hD_23 _ _ ⟨v_125, v_124, N_114, M_122, M_121, (h.to rfl), (hS.sel [0, 1, 2, 3, 4, 6, 5] (by decide)), (le_82.trans le_83), hr_40, ho_85⟩)
  ·refine s_load h rfl rfl (hS.load_one (p := 1) rfl U28 rfl rfl) fun a h=>wpList_nil <| x_then_n ⟨(hS.sub (.cons le_82 (.zz (.rr (.rr (.rr .nn)))))), ?_⟩
   exact (hGD_1 _ _ _ _).1 (hD_26 _ _ ⟨v_124, N_112, M_121, (h.to rfl), (hS.sel [0, 1, 2, 3, 4, 5] (by decide)), le_82, ho_85⟩)
  ·refine s_load h rfl rfl (hS.load_one (p := 1) rfl U29 rfl rfl) fun a h=>wpList_nil <| x_then_n ⟨(hS.sub (.cons le_82 (.zz (.rr (.rr (.rr .nn)))))), ?_⟩
   exact (hGD_1 _ _ _ _).1 (hD_28 _ _ ⟨v_124, N_112, M_121, (h.to rfl), (hS.sel [0, 1, 2, 3, 4, 5] (by decide)), le_82, ho_85⟩)
 have hD_39 : ∀ (a : Act) (w_118 : World), (∃ (N_115 : Mem), Fr 144 a [(2, .pointer (some ⟨g_1, 0, none⟩)), (3, .pointer (some ⟨g_2, 0, none⟩)), (4, .pointer (some ⟨g_3, 0, none⟩)), (5, .pointer (some ⟨g_4, 0, none⟩)), (9, p0_0), (11, .pointer (some ⟨g_1, 1, none⟩)), (16, p0_2), (19, p0_3)] ∧ Sep w0 w_118 [N_115, bx g_1 32 [p0_0, p0_1, p0_2, p0_3], bx g_2 24 (E24 x1 p1_4 p1_5 p1_6), bx g_3 32 [nS, nS, nS, nS], bx g_4 91 [iV 0, nS, iV 0]] Z ∧ Mem.no.le N_115) → GD_1 8 (bA 15 3467) a w_118 := by
  rintro a w_118 ⟨N_115, h, hS, le_84⟩
  refine (hGD_1 _ _ _ _).2 <| h_evs [2, 4, 6] (by kernel_rfl) ⟨⟨_, (bA 15 3471), rfl, by kernel_rfl, ?_⟩, ⟨_, (bA 15 3483), rfl, by kernel_rfl, ?_⟩, ⟨_, (bA 15 3531), rfl, by kernel_rfl, ?_⟩, trivial⟩
  ·refine s_call h rfl Try.call101 rfl (hocketref4_own.calls x0.Reg _ t_1 w0 _ _ _ mr (hS.enter [] (by decide)) (hp0_0.mono (hA.trans (hS.le_zed []))) et_1) ?_
   rintro v_126 w_119 ⟨_, N_116, M_123, rfl, hS', hr_41⟩
   intro a h
   obtain ⟨N_117, hS'', le_85, ln_32⟩ := hS.call [] (by decide) rfl (l' := []) (ow := [_]) rfl hS'
   replace hS : Sep w0 w_119 [N_117, _, _, _, _, _] Z := hS''
   refine ne (hS.sub (.cons (le_84.trans le_85) (.zz (.rr (.rr (.rr .nn)))))) fun hs => ?_
   exact (hGD_1 _ _ _ _).1 (hD_24 _ _ ⟨v_126, N_117, M_123, (h.to rfl), (hS.sel [0, 1, 2, 3, 4, 5] (by decide)), (le_84.trans le_85), hr_41⟩)
  ·refine s_load h rfl rfl (hS.load_one (p := 1) rfl U28 rfl rfl) fun a h=>wpList_nil <| x_then_n ⟨(hS.sub (.cons le_84 (.zz .ii))), ?_⟩
   exact (hGD_1 _ _ _ _).1 (hD_27 _ _ ⟨N_115, (h.to rfl), (hS.sel [0, 1, 2, 3, 4] (by decide)), le_84⟩)
  ·have hq_15 : Reps (Kd.int .i64) Mem.no ([] : List Int) _ := (Reps.nil (Kd.int .i64) _)
   refine s_buildSlice h rfl U29 ti3 rfl rfl rfl .nil rfl rfl rfl hS hq_15 rfl fun w_120 v_127 M_124 hS' ho_86 a h => ?_
   replace hS : Sep w0 w_120 [_, _, _, _, _, M_124] Z := hS'
   refine ne (hS.sub (.cons le_84 (.zz (.rr (.rr (.rr .nn)))))) fun hs => ?_
   exact (hGD_1 _ _ _ _).1 (hD_28 _ _ ⟨v_127, N_115, M_124, (h.to rfl), (hS.sel [0, 1, 2, 3, 4, 5] (by decide)), le_84, ho_86⟩)
 have hD_40 : ∀ (a : Act) (w_121 : World), (∃ (v_128 : Value) (N_118 : Mem) (M_125 : Mem), Fr 144 a [(2, .pointer (some ⟨g_1, 0, none⟩)), (3, .pointer (some ⟨g_2, 0, none⟩)), (4, .pointer (some ⟨g_3, 0, none⟩)), (5, .pointer (some ⟨g_4, 0, none⟩)), (8, .pointer (some ⟨g_1, 0, none⟩)), (12, p0_1), (14, v_128), (16, p0_2), (18, .pointer (some ⟨g_1, 3, none⟩))] ∧ Sep w0 w_121 [N_118, bx g_1 32 [p0_0, p0_1, p0_2, p0_3], bx g_2 24 (E24 x1 p1_4 p1_5 p1_6), bx g_3 32 [nS, nS, nS, nS], bx g_4 91 [iV 0, nS, iV 0], M_125] Z ∧ Mem.no.le N_118 ∧ Own (Kd.int .i64) 3 M_125 Mem.no v_128 ([] : List Int)) → GD_1 8 (bA 15 1497) a w_121 := by
  rintro a w_121 ⟨v_128, N_118, M_125, h, hS, le_86, ho_87⟩
  refine (hGD_1 _ _ _ _).2 <| h_evs [1, 11] (by kernel_rfl) ⟨⟨_, (bA 15 1499), rfl, by kernel_rfl, ?_⟩, ⟨_, (bA 15 3545), rfl, by kernel_rfl, ?_⟩, trivial⟩
  ·refine s_load h rfl rfl (hS.load_one (p := 1) rfl U22 rfl rfl) fun a h=>wpList_nil <| x_then_n ⟨(hS.sub (.cons le_86 (.zz (.rr (.rr (.rr .nn)))))), ?_⟩
   exact (hGD_1 _ _ _ _).1 (hD_25 _ _ ⟨v_128, N_118, M_125, (h.to rfl), (hS.sel [0, 1, 2, 3, 4, 5] (by decide)), le_86, ho_87⟩)
  ·refine s_load h rfl rfl (hS.load_one (p := 1) rfl U30 rfl rfl) fun a h=>wpList_nil <| x_then_n ⟨(hS.sub (.cons le_86 (.zz (.rr (.rr (.rr .nn)))))), ?_⟩
   exact (hGD_1 _ _ _ _).1 (hD_29 _ _ ⟨v_128, N_118, M_125, (h.to rfl), (hS.sel [0, 1, 2, 3, 4, 5] (by decide)), le_86, ho_87⟩)
 have hD_41 : ∀ (a : Act) (w_122 : World), (∃ (v_129 : Value) (N_119 : Mem) (M_126 : Mem), Fr 144 a [(2, .pointer (some ⟨g_1, 0, none⟩)), (3, .pointer (some ⟨g_2, 0, none⟩)), (4, .pointer (some ⟨g_3, 0, none⟩)), (5, .pointer (some ⟨g_4, 0, none⟩)), (8, .pointer (some ⟨g_1, 0, none⟩)), (12, p0_1), (14, v_129), (15, .pointer (some ⟨g_1, 2, none⟩)), (19, p0_3)] ∧ Sep w0 w_122 [N_119, bx g_1 32 [p0_0, p0_1, p0_2, p0_3], bx g_2 24 (E24 x1 p1_4 p1_5 p1_6), bx g_3 32 [nS, nS, nS, nS], bx g_4 91 [iV 0, nS, iV 0], M_126] Z ∧ Mem.no.le N_119 ∧ Own (Kd.int .i64) 3 M_126 Mem.no v_129 ([] : List Int)) → GD_1 8 (bA 15 3289) a w_122 := by
  rintro a w_122 ⟨v_129, N_119, M_126, h, hS, le_87, ho_88⟩
  refine (hGD_1 _ _ _ _).2 <| h_evs [1, 8] (by kernel_rfl) ⟨⟨_, (bA 15 3291), rfl, by kernel_rfl, ?_⟩, ⟨_, (bA 15 3545), rfl, by kernel_rfl, ?_⟩, trivial⟩
  ·refine s_load h rfl rfl (hS.load_one (p := 1) rfl U22 rfl rfl) fun a h=>wpList_nil <| x_then_n ⟨(hS.sub (.cons le_87 (.zz (.rr (.rr (.rr .nn)))))), ?_⟩
   exact (hGD_1 _ _ _ _).1 (hD_26 _ _ ⟨v_129, N_119, M_126, (h.to rfl), (hS.sel [0, 1, 2, 3, 4, 5] (by decide)), le_87, ho_88⟩)
  ·refine s_load h rfl rfl (hS.load_one (p := 1) rfl U29 rfl rfl) fun a h=>wpList_nil <| x_then_n ⟨(hS.sub (.cons le_87 (.zz (.rr (.rr (.rr .nn)))))), ?_⟩
   exact (hGD_1 _ _ _ _).1 (hD_29 _ _ ⟨v_129, N_119, M_126, (h.to rfl), (hS.sel [0, 1, 2, 3, 4, 5] (by decide)), le_87, ho_88⟩)
 have hD_42 : ∀ (a : Act) (w_123 : World), (∃ (N_120 : Mem), Fr 144 a [(2, .pointer (some ⟨g_1, 0, none⟩)), (3, .pointer (some ⟨g_2, 0, none⟩)), (4, .pointer (some ⟨g_3, 0, none⟩)), (5, .pointer (some ⟨g_4, 0, none⟩)), (8, .pointer (some ⟨g_1, 0, none⟩)), (12, p0_1), (16, p0_2), (19, p0_3)] ∧ Sep w0 w_123 [N_120, bx g_1 32 [p0_0, p0_1, p0_2, p0_3], bx g_2 24 (E24 x1 p1_4 p1_5 p1_6), bx g_3 32 [nS, nS, nS, nS], bx g_4 91 [iV 0, nS, iV 0]] Z ∧ Mem.no.le N_120) → GD_1 8 (bA 15 3481) a w_123 := by
  rintro a w_123 ⟨N_120, h, hS, le_88⟩
  refine (hGD_1 _ _ _ _).2 <| h_evs [1, 6] (by kernel_rfl) ⟨⟨_, (bA 15 3483), rfl, by kernel_rfl, ?_⟩, ⟨_, (bA 15 3545), rfl, by kernel_rfl, ?_⟩, trivial⟩
  ·refine s_load h rfl rfl (hS.load_one (p := 1) rfl U22 rfl rfl) fun a h=>wpList_nil <| x_then_n ⟨(hS.sub (.cons le_88 (.zz .ii))), ?_⟩
   exact (hGD_1 _ _ _ _).1 (hD_27 _ _ ⟨N_120, (h.to rfl), (hS.sel [0, 1, 2, 3, 4] (by decide)), le_88⟩)
  ·have hq_16 : Reps (Kd.int .i64) Mem.no ([] : List Int) _ := (Reps.nil (Kd.int .i64) _)
   refine s_buildSlice h rfl U29 ti3 rfl rfl rfl .nil rfl rfl rfl hS hq_16 rfl fun w_124 v_130 M_127 hS' ho_89 a h => ?_
   replace hS : Sep w0 w_124 [_, _, _, _, _, M_127] Z := hS'
   refine ne (hS.sub (.cons le_88 (.zz (.rr (.rr (.rr .nn)))))) fun hs => ?_
   exact (hGD_1 _ _ _ _).1 (hD_29 _ _ ⟨v_130, N_120, M_127, (h.to rfl), (hS.sel [0, 1, 2, 3, 4, 5] (by decide)), le_88, ho_89⟩)
 have hD_43 : ∀ (a : Act) (w_125 : World), (∃ (v_131 : Value) (N_121 : Mem) (M_128 : Mem), Fr 144 a [(2, .pointer (some ⟨g_1, 0, none⟩)), (3, .pointer (some ⟨g_2, 0, none⟩)), (4, .pointer (some ⟨g_3, 0, none⟩)), (5, .pointer (some ⟨g_4, 0, none⟩)), (8, .pointer (some ⟨g_1, 0, none⟩)), (11, .pointer (some ⟨g_1, 1, none⟩)), (14, v_131), (16, p0_2), (19, p0_3)] ∧ Sep w0 w_125 [N_121, bx g_1 32 [p0_0, p0_1, p0_2, p0_3], bx g_2 24 (E24 x1 p1_4 p1_5 p1_6), bx g_3 32 [nS, nS, nS, nS], bx g_4 91 [iV 0, nS, iV 0], M_128] Z ∧ Mem.no.le N_121 ∧ Own (Kd.int .i64) 3 M_128 Mem.no v_131 ([] : List Int)) → GD_1 8 (bA 15 3529) a w_125 := by
  rintro a w_125 ⟨v_131, N_121, M_128, h, hS, le_89, ho_90⟩
  refine (hGD_1 _ _ _ _).2 <| h_evs [1, 4] (by kernel_rfl) ⟨⟨_, (bA 15 3531), rfl, by kernel_rfl, ?_⟩, ⟨_, (bA 15 3545), rfl, by kernel_rfl, ?_⟩, trivial⟩
  ·refine s_load h rfl rfl (hS.load_one (p := 1) rfl U22 rfl rfl) fun a h=>wpList_nil <| x_then_n ⟨(hS.sub (.cons le_89 (.zz (.rr (.rr (.rr .nn)))))), ?_⟩
   exact (hGD_1 _ _ _ _).1 (hD_28 _ _ ⟨v_131, N_121, M_128, (h.to rfl), (hS.sel [0, 1, 2, 3, 4, 5] (by decide)), le_89, ho_90⟩)
  ·refine s_load h rfl rfl (hS.load_one (p := 1) rfl U28 rfl rfl) fun a h=>wpList_nil <| x_then_n ⟨(hS.sub (.cons le_89 (.zz (.rr (.rr (.rr .nn)))))), ?_⟩
   exact (hGD_1 _ _ _ _).1 (hD_29 _ _ ⟨v_131, N_121, M_128, (h.to rfl), (hS.sel [0, 1, 2, 3, 4, 5] (by decide)), le_89, ho_90⟩)
 have hD_44 : ∀ (a : Act) (w_126 : World), (∃ (v_132 : Value) (N_122 : Mem) (M_129 : Mem), Fr 144 a [(2, .pointer (some ⟨g_1, 0, none⟩)), (3, .pointer (some ⟨g_2, 0, none⟩)), (4, .pointer (some ⟨g_3, 0, none⟩)), (5, .pointer (some ⟨g_4, 0, none⟩)), (10, v_132), (11, .pointer (some ⟨g_1, 1, none⟩)), (15, .pointer (some ⟨g_1, 2, none⟩)), (18, .pointer (some ⟨g_1, 3, none⟩))] ∧ Sep w0 w_126 [N_122, bx g_1 32 [p0_0, p0_1, p0_2, p0_3], bx g_2 24 (E24 x1 p1_4 p1_5 p1_6), bx g_3 32 [nS, nS, nS, nS], bx g_4 91 [iV 0, nS, iV 0], M_129] Z ∧ Mem.no.le N_122 ∧ Own Kd.u8 5 M_129 Mem.no v_132 t_1) → GD_1 9 (bA 15 1167) a w_126 := by
  rintro a w_126 ⟨v_132, N_122, M_129, h, hS, le_90, ho_91⟩
  refine (hGD_1 _ _ _ _).2 <| h_evs [4, 6, 8, 11] (by kernel_rfl) ⟨⟨_, (bA 15 1183), rfl, by kernel_rfl, ?_⟩, ⟨_, (bA 15 1231), rfl, by kernel_rfl, ?_⟩, ⟨_, (bA 15 1423), rfl, by kernel_rfl, ?_⟩, ⟨_, (bA 15 3215), rfl, by kernel_rfl, ?_⟩, trivial⟩
  ·refine s_load h rfl rfl (hS.load_one (p := 1) rfl U28 rfl rfl) fun a h=>wpList_nil <| x_then_n ⟨(hS.sub (.cons le_90 (.zz (.rr (.rr (.rr .nn)))))), ?_⟩
   exact (hGD_1 _ _ _ _).1 (hD_30 _ _ ⟨v_132, N_122, M_129, (h.to rfl), (hS.sel [0, 1, 2, 3, 4, 5] (by decide)), le_90, ho_91⟩)
  ·have hq_17 : Reps (Kd.int .i64) Mem.no ([] : List Int) _ := (Reps.nil (Kd.int .i64) _)
   refine s_buildSlice h rfl U29 ti3 rfl rfl rfl .nil rfl rfl rfl hS hq_17 rfl fun w_127 v_133 M_130 hS' ho_92 a h => ?_
   replace hS : Sep w0 w_127 [_, _, _, _, _, _, M_130] Z := hS'
   refine ne (hS.sub (.cons le_90 (.zz (.rr (.rr (.rr .nn)))))) fun hs => ?_
   exact (hGD_1 _ _ _ _).1 (hD_31 _ _ ⟨v_132, v_133, N_122, M_129, M_130, (h.to rfl), (hS.sel [0, 1, 2, 3, 4, 5, 6] (by decide)), le_90, ho_91, ho_92⟩)
  ·refine s_load h rfl rfl (hS.load_one (p := 1) rfl U29 rfl rfl) fun a h=>wpList_nil <| x_then_n ⟨(hS.sub (.cons le_90 (.zz (.rr (.rr (.rr .nn)))))), ?_⟩
   exact (hGD_1 _ _ _ _).1 (hD_32 _ _ ⟨v_132, N_122, M_129, (h.to rfl), (hS.sel [0, 1, 2, 3, 4, 5] (by decide)), le_90, ho_91⟩)
  ·refine s_load h rfl rfl (hS.load_one (p := 1) rfl U30 rfl rfl) fun a h=>wpList_nil <| x_then_n ⟨(hS.sub (.cons le_90 (.zz (.rr (.rr (.rr .nn)))))), ?_⟩
   exact (hGD_1 _ _ _ _).1 (hD_33 _ _ ⟨v_132, N_122, M_129, (h.to rfl), (hS.sel [0, 1, 2, 3, 4, 5] (by decide)), le_90, ho_91⟩)
 have hD_45 : ∀ (a : Act) (w_128 : World), (∃ (N_123 : Mem), Fr 144 a [(2, .pointer (some ⟨g_1, 0, none⟩)), (3, .pointer (some ⟨g_2, 0, none⟩)), (4, .pointer (some ⟨g_3, 0, none⟩)), (5, .pointer (some ⟨g_4, 0, none⟩)), (9, p0_0), (12, p0_1), (15, .pointer (some ⟨g_1, 2, none⟩)), (18, .pointer (some ⟨g_1, 3, none⟩))] ∧ Sep w0 w_128 [N_123, bx g_1 32 [p0_0, p0_1, p0_2, p0_3], bx g_2 24 (E24 x1 p1_4 p1_5 p1_6), bx g_3 32 [nS, nS, nS, nS], bx g_4 91 [iV 0, nS, iV 0]] Z ∧ Mem.no.le N_123) → GD_1 9 (bA 15 1179) a w_128 := by
  rintro a w_128 ⟨N_123, h, hS, le_91⟩
  refine (hGD_1 _ _ _ _).2 <| h_evs [2, 6, 8, 11] (by kernel_rfl) ⟨⟨_, (bA 15 1183), rfl, by kernel_rfl, ?_⟩, ⟨_, (bA 15 1243), rfl, by kernel_rfl, ?_⟩, ⟨_, (bA 15 1435), rfl, by kernel_rfl, ?_⟩, ⟨_, (bA 15 3227), rfl, by kernel_rfl, ?_⟩, trivial⟩
  ·refine s_call h rfl Try.call101 rfl (hocketref4_own.calls x0.Reg _ t_1 w0 _ _ _ mr (hS.enter [] (by decide)) (hp0_0.mono (hA.trans (hS.le_zed []))) et_1) ?_
   rintro v_134 w_129 ⟨_, N_124, M_131, rfl, hS', hr_42⟩
   intro a h
   obtain ⟨N_125, hS'', le_92, ln_33⟩ := hS.call [] (by decide) rfl (l' := []) (ow := [_]) rfl hS'
   replace hS : Sep w0 w_129 [N_125, _, _, _, _, _] Z := hS''
   refine ne (hS.sub (.cons (le_91.trans le_92) (.zz (.rr (.rr (.rr .nn)))))) fun hs => ?_
   exact (hGD_1 _ _ _ _).1 (hD_30 _ _ ⟨v_134, N_125, M_131, (h.to rfl), (hS.sel [0, 1, 2, 3, 4, 5] (by decide)), (le_91.trans le_92), hr_42⟩)
  ·have hq_18 : Reps (Kd.int .i64) Mem.no ([] : List Int) _ := (Reps.nil (Kd.int .i64) _)
   refine s_buildSlice h rfl U29 ti3 rfl rfl rfl .nil rfl rfl rfl hS hq_18 rfl fun w_130 v_135 M_132 hS' ho_93 a h => ?_
   replace hS : Sep w0 w_130 [_, _, _, _, _, M_132] Z := hS'
   refine ne (hS.sub (.cons le_91 (.zz (.rr (.rr (.rr .nn)))))) fun hs => ?_
   exact (hGD_1 _ _ _ _).1 (hD_34 _ _ ⟨v_135, N_123, M_132, (h.to rfl), (hS.sel [0, 1, 2, 3, 4, 5] (by decide)), le_91, ho_93⟩)
  ·refine s_load h rfl rfl (hS.load_one (p := 1) rfl U29 rfl rfl) fun a h=>wpList_nil <| x_then_n ⟨(hS.sub (.cons le_91 (.zz .ii))), ?_⟩
   exact (hGD_1 _ _ _ _).1 (hD_35 _ _ ⟨N_123, (h.to rfl), (hS.sel [0, 1, 2, 3, 4] (by decide)), le_91⟩)
  ·refine s_load h rfl rfl (hS.load_one (p := 1) rfl U30 rfl rfl) fun a h=>wpList_nil <| x_then_n ⟨(hS.sub (.cons le_91 (.zz .ii))), ?_⟩
   exact (hGD_1 _ _ _ _).1 (hD_36 _ _ ⟨N_123, (h.to rfl), (hS.sel [0, 1, 2, 3, 4] (by decide)), le_91⟩)
 have hD_46 : ∀ (a : Act) (w_131 : World), (∃ (v_136 : Value) (N_126 : Mem) (M_133 : Mem), Fr 144 a [(2, .pointer (some ⟨g_1, 0, none⟩)), (3, .pointer (some ⟨g_2, 0, none⟩)), (4, .pointer (some ⟨g_3, 0, none⟩)), (5, .pointer (some ⟨g_4, 0, none⟩)), (9, p0_0), (11, .pointer (some ⟨g_1, 1, none⟩)), (14, v_136), (15, .pointer (some ⟨g_1, 2, none⟩)), (18, .pointer (some ⟨g_1, 3, none⟩))] ∧ Sep w0 w_131 [N_126, bx g_1 32 [p0_0, p0_1, p0_2, p0_3], bx g_2 24 (E24 x1 p1_4 p1_5 p1_6), bx g_3 32 [nS, nS, nS, nS], bx g_4 91 [iV 0, nS, iV 0], M_133] Z ∧ Mem.no.le N_126 ∧ Own (Kd.int .i64) 3 M_133 Mem.no v_136 ([] : List Int)) → GD_1 9 (bA 15 1227) a w_131 := by
  rintro a w_131 ⟨v_136, N_126, M_133, h, hS, le_93, ho_94⟩
  refine (hGD_1 _ _ _ _).2 <| h_evs [2, 4, 8, 11] (by kernel_rfl) ⟨⟨_, (bA 15 1231), rfl, by kernel_rfl, ?_⟩, ⟨_, (bA 15 1243), rfl, by kernel_rfl, ?_⟩, ⟨_, (bA 15 1483), rfl, by kernel_rfl, ?_⟩, ⟨_, (bA 15 3275), rfl, by kernel_rfl, ?_⟩, trivial⟩
  ·refine s_call h rfl Try.call101 rfl (hocketref4_own.calls x0.Reg _ t_1 w0 _ _ _ mr (hS.enter [] (by decide)) (hp0_0.mono (hA.trans (hS.le_zed []))) et_1) ?_
   rintro v_137 w_132 ⟨_, N_127, M_134, rfl, hS', hr_43⟩
   intro a h
   obtain ⟨N_128, hS'', le_94, ln_34⟩ := hS.call [] (by decide) rfl (l' := []) (ow := [_]) rfl hS'
   replace hS : Sep w0 w_132 [N_128, _, _, _, _, _, _] Z := hS''
   refine ne (hS.sub (.cons (le_93.trans le_94) (.zz (.rr (.rr (.rr .nn)))))) fun hs => ?_
   exact (hGD_1 _ _ _ _).1 (hD_31 _ _ ⟨v_137, v_136, N_128, M_134, M_133, (h.to rfl), (hS.sel [0, 1, 2, 3, 4, 6, 5] (by decide)), (le_93.trans le_94), hr_43, ho_94⟩)
  ·refine s_load h rfl rfl (hS.load_one (p := 1) rfl U28 rfl rfl) fun a h=>wpList_nil <| x_then_n ⟨(hS.sub (.cons le_93 (.zz (.rr (.rr (.rr .nn)))))), ?_⟩
   exact (hGD_1 _ _ _ _).1 (hD_34 _ _ ⟨v_136, N_126, M_133, (h.to rfl), (hS.sel [0, 1, 2, 3, 4, 5] (by decide)), le_93, ho_94⟩)
  ·refine s_load h rfl rfl (hS.load_one (p := 1) rfl U29 rfl rfl) fun a h=>wpList_nil <| x_then_n ⟨(hS.sub (.cons le_93 (.zz (.rr (.rr (.rr .nn)))))), ?_⟩
   exact (hGD_1 _ _ _ _).1 (hD_37 _ _ ⟨v_136, N_126, M_133, (h.to rfl), (hS.sel [0, 1, 2, 3, 4, 5] (by decide)), le_93, ho_94⟩)
  ·refine s_load h rfl rfl (hS.load_one (p := 1) rfl U30 rfl rfl) fun a h=>wpList_nil <| x_then_n ⟨(hS.sub (.cons le_93 (.zz (.rr (.rr (.rr .nn)))))), ?_⟩
   exact (hGD_1 _ _ _ _).1 (hD_38 _ _ ⟨v_136, N_126, M_133, (h.to rfl), (hS.sel [0, 1, 2, 3, 4, 5] (by decide)), le_93, ho_94⟩)
 have hD_47 : ∀ (a : Act) (w_133 : World), (∃ (N_129 : Mem), Fr 144 a [(2, .pointer (some ⟨g_1, 0, none⟩)), (3, .pointer (some ⟨g_2, 0, none⟩)), (4, .pointer (some ⟨g_3, 0, none⟩)), (5, .pointer (some ⟨g_4, 0, none⟩)), (9, p0_0), (11, .pointer (some ⟨g_1, 1, none⟩)), (16, p0_2), (18, .pointer (some ⟨g_1, 3, none⟩))] ∧ Sep w0 w_133 [N_129, bx g_1 32 [p0_0, p0_1, p0_2, p0_3], bx g_2 24 (E24 x1 p1_4 p1_5 p1_6), bx g_3 32 [nS, nS, nS, nS], bx g_4 91 [iV 0, nS, iV 0]] Z ∧ Mem.no.le N_129) → GD_1 9 (bA 15 1419) a w_133 := by
  rintro a w_133 ⟨N_129, h, hS, le_95⟩
  refine (hGD_1 _ _ _ _).2 <| h_evs [2, 4, 6, 11] (by kernel_rfl) ⟨⟨_, (bA 15 1423), rfl, by kernel_rfl, ?_⟩, ⟨_, (bA 15 1435), rfl, by kernel_rfl, ?_⟩, ⟨_, (bA 15 1483), rfl, by kernel_rfl, ?_⟩, ⟨_, (bA 15 3467), rfl, by kernel_rfl, ?_⟩, trivial⟩
  ·refine s_call h rfl Try.call101 rfl (hocketref4_own.calls x0.Reg _ t_1 w0 _ _ _ mr (hS.enter [] (by decide)) (hp0_0.mono (hA.trans (hS.le_zed []))) et_1) ?_
   rintro v_138 w_134 ⟨_, N_130, M_135, rfl, hS', hr_44⟩
   intro a h
   obtain ⟨N_131, hS'', le_96, ln_35⟩ := hS.call [] (by decide) rfl (l' := []) (ow := [_]) rfl hS'
   replace hS : Sep w0 w_134 [N_131, _, _, _, _, _] Z := hS''
   refine ne (hS.sub (.cons (le_95.trans le_96) (.zz (.rr (.rr (.rr .nn)))))) fun hs => ?_
   exact (hGD_1 _ _ _ _).1 (hD_32 _ _ ⟨v_138, N_131, M_135, (h.to rfl), (hS.sel [0, 1, 2, 3, 4, 5] (by decide)), (le_95.trans le_96), hr_44⟩)
  ·refine s_load h rfl rfl (hS.load_one (p := 1) rfl U28 rfl rfl) fun a h=>wpList_nil <| x_then_n ⟨(hS.sub (.cons le_95 (.zz .ii))), ?_⟩
   exact (hGD_1 _ _ _ _).1 (hD_35 _ _ ⟨N_129, (h.to rfl), (hS.sel [0, 1, 2, 3, 4] (by decide)), le_95⟩)
  ·have hq_19 : Reps (Kd.int .i64) Mem.no ([] : List Int) _ := (Reps.nil (Kd.int .i64) _)
   refine s_buildSlice h rfl U29 ti3 rfl rfl rfl .nil rfl rfl rfl hS hq_19 rfl fun w_135 v_139 M_136 hS' ho_95 a h => ?_
   replace hS : Sep w0 w_135 [_, _, _, _, _, M_136] Z := hS'
   refine ne (hS.sub (.cons le_95 (.zz (.rr (.rr (.rr .nn)))))) fun hs => ?_
   exact (hGD_1 _ _ _ _).1 (hD_37 _ _ ⟨v_139, N_129, M_136, (h.to rfl), (hS.sel [0, 1, 2, 3, 4, 5] (by decide)), le_95, ho_95⟩)
  ·refine s_load h rfl rfl (hS.load_one (p := 1) rfl U30 rfl rfl) fun a h=>wpList_nil <| x_then_n ⟨(hS.sub (.cons le_95 (.zz .ii))), ?_⟩
   exact (hGD_1 _ _ _ _).1 (hD_39 _ _ ⟨N_129, (h.to rfl), (hS.sel [0, 1, 2, 3, 4] (by decide)), le_95⟩)
 have hD_48 : ∀ (a : Act) (w_136 : World), (∃ (N_132 : Mem), Fr 144 a [(2, .pointer (some ⟨g_1, 0, none⟩)), (3, .pointer (some ⟨g_2, 0, none⟩)), (4, .pointer (some ⟨g_3, 0, none⟩)), (5, .pointer (some ⟨g_4, 0, none⟩)), (9, p0_0), (11, .pointer (some ⟨g_1, 1, none⟩)), (15, .pointer (some ⟨g_1, 2, none⟩)), (19, p0_3)] ∧ Sep w0 w_136 [N_132, bx g_1 32 [p0_0, p0_1, p0_2, p0_3], bx g_2 24 (E24 x1 p1_4 p1_5 p1_6), bx g_3 32 [nS, nS, nS, nS], bx g_4 91 [iV 0, nS, iV 0]] Z ∧ Mem.no.le N_132) → GD_1 9 (bA 15 3211) a w_136 := by
  rintro a w_136 ⟨N_132, h, hS, le_97⟩
  refine (hGD_1 _ _ _ _).2 <| h_evs [2, 4, 6, 8] (by kernel_rfl) ⟨⟨_, (bA 15 3215), rfl, by kernel_rfl, ?_⟩, ⟨_, (bA 15 3227), rfl, by kernel_rfl, ?_⟩, ⟨_, (bA 15 3275), rfl, by kernel_rfl, ?_⟩, ⟨_, (bA 15 3467), rfl, by kernel_rfl, ?_⟩, trivial⟩
  ·refine s_call h rfl Try.call101 rfl (hocketref4_own.calls x0.Reg _ t_1 w0 _ _ _ mr (hS.enter [] (by decide)) (hp0_0.mono (hA.trans (hS.le_zed []))) et_1) ?_
   rintro v_140 w_137 ⟨_, N_133, M_137, rfl, hS', hr_45⟩
   intro a h
   obtain ⟨N_134, hS'', le_98, ln_36⟩ := hS.call [] (by decide) rfl (l' := []) (ow := [_]) rfl hS'
   replace hS : Sep w0 w_137 [N_134, _, _, _, _, _] Z := hS''
   refine ne (hS.sub (.cons (le_97.trans le_98) (.zz (.rr (.rr (.rr .nn)))))) fun hs => ?_
   exact (hGD_1 _ _ _ _).1 (hD_33 _ _ ⟨v_140, N_134, M_137, (h.to rfl), (hS.sel [0, 1, 2, 3, 4, 5] (by decide)), (le_97.trans le_98), hr_45⟩)
  ·refine s_load h rfl rfl (hS.load_one (p := 1) rfl U28 rfl rfl) fun a h=>wpList_nil <| x_then_n ⟨(hS.sub (.cons le_97 (.zz .ii))), ?_⟩
   exact (hGD_1 _ _ _ _).1 (hD_36 _ _ ⟨N_132, (h.to rfl), (hS.sel [0, 1, 2, 3, 4] (by decide)), le_97⟩)
  ·have hq_20 : Reps (Kd.int .i64) Mem.no ([] : List Int) _ := (Reps.nil (Kd.int .i64) _)
   refine s_buildSlice h rfl U29 ti3 rfl rfl rfl .nil rfl rfl rfl hS hq_20 rfl fun w_138 v_141 M_138 hS' ho_96 a h => ?_
   replace hS : Sep w0 w_138 [_, _, _, _, _, M_138] Z := hS'
   refine ne (hS.sub (.cons le_97 (.zz (.rr (.rr (.rr .nn)))))) fun hs => ?_
   exact (hGD_1 _ _ _ _).1 (hD_38 _ _ ⟨v_141, N_132, M_138, (h.to rfl), (hS.sel [0, 1, 2, 3, 4, 5] (by decide)), le_97, ho_96⟩)
  ·refine s_load h rfl rfl (hS.load_one (p := 1) rfl U29 rfl rfl) fun a h=>wpList_nil <| x_then_n ⟨(hS.sub (.cons le_97 (.zz .ii))), ?_⟩
   exact (hGD_1 _ _ _ _).1 (hD_39 _ _ ⟨N_132, (h.to rfl), (hS.sel [0, 1, 2, 3, 4] (by decide)), le_97⟩)
 have hD_49 : ∀ (a : Act) (w_139 : World), (∃ (v_142 : Value) (N_135 : Mem) (M_139 : Mem), Fr 144 a [(2, .pointer (some ⟨g_1, 0, none⟩)), (3, .pointer (some ⟨g_2, 0, none⟩)), (4, .pointer (some ⟨g_3, 0, none⟩)), (5, .pointer (some ⟨g_4, 0, none⟩)), (8, .pointer (some ⟨g_1, 0, none⟩)), (12, p0_1), (14, v_142), (15, .pointer (some ⟨g_1, 2, none⟩)), (18, .pointer (some ⟨g_1, 3, none⟩))] ∧ Sep w0 w_139 [N_135, bx g_1 32 [p0_0, p0_1, p0_2, p0_3], bx g_2 24 (E24 x1 p1_4 p1_5 p1_6), bx g_3 32 [nS, nS, nS, nS], bx g_4 91 [iV 0, nS, iV 0], M_139] Z ∧ Mem.no.le N_135 ∧ Own (Kd.int .i64) 3 M_139 Mem.no v_142 ([] : List Int)) → GD_1 9 (bA 15 1241) a w_139 := by
  rintro a w_139 ⟨v_142, N_135, M_139, h, hS, le_99, ho_97⟩
  refine (hGD_1 _ _ _ _).2 <| h_evs [1, 8, 11] (by kernel_rfl) ⟨⟨_, (bA 15 1243), rfl, by kernel_rfl, ?_⟩, ⟨_, (bA 15 1497), rfl, by kernel_rfl, ?_⟩, ⟨_, (bA 15 3289), rfl, by kernel_rfl, ?_⟩, trivial⟩
  ·refine s_load h rfl rfl (hS.load_one (p := 1) rfl U22 rfl rfl) fun a h=>wpList_nil <| x_then_n ⟨(hS.sub (.cons le_99 (.zz (.rr (.rr (.rr .nn)))))), ?_⟩
   exact (hGD_1 _ _ _ _).1 (hD_34 _ _ ⟨v_142, N_135, M_139, (h.to rfl), (hS.sel [0, 1, 2, 3, 4, 5] (by decide)), le_99, ho_97⟩)
  ·refine s_load h rfl rfl (hS.load_one (p := 1) rfl U29 rfl rfl) fun a h=>wpList_nil <| x_then_n ⟨(hS.sub (.cons le_99 (.zz (.rr (.rr (.rr .nn)))))), ?_⟩
   exact (hGD_1 _ _ _ _).1 (hD_40 _ _ ⟨v_142, N_135, M_139, (h.to rfl), (hS.sel [0, 1, 2, 3, 4, 5] (by decide)), le_99, ho_97⟩)
  ·refine s_load h rfl rfl (hS.load_one (p := 1) rfl U30 rfl rfl) fun a h=>wpList_nil <| x_then_n ⟨(hS.sub (.cons le_99 (.zz (.rr (.rr (.rr .nn)))))), ?_⟩
   exact (hGD_1 _ _ _ _).1 (hD_41 _ _ ⟨v_142, N_135, M_139, (h.to rfl), (hS.sel [0, 1, 2, 3, 4, 5] (by decide)), le_99, ho_97⟩)
 have hD_50 : ∀ (a : Act) (w_140 : World), (∃ (N_136 : Mem), Fr 144 a [(2, .pointer (some ⟨g_1, 0, none⟩)), (3, .pointer (some ⟨g_2, 0, none⟩)), (4, .pointer (some ⟨g_3, 0, none⟩)), (5, .pointer (some ⟨g_4, 0, none⟩)), (8, .pointer (some ⟨g_1, 0, none⟩)), (12, p0_1), (16, p0_2), (18, .pointer (some ⟨g_1, 3, none⟩))] ∧ Sep w0 w_140 [N_136, bx g_1 32 [p0_0, p0_1, p0_2, p0_3], bx g_2 24 (E24 x1 p1_4 p1_5 p1_6), bx g_3 32 [nS, nS, nS, nS], bx g_4 91 [iV 0, nS, iV 0]] Z ∧ Mem.no.le N_136) → GD_1 9 (bA 15 1433) a w_140 := by
  rintro a w_140 ⟨N_136, h, hS, le_100⟩
  refine (hGD_1 _ _ _ _).2 <| h_evs [1, 6, 11] (by kernel_rfl) ⟨⟨_, (bA 15 1435), rfl, by kernel_rfl, ?_⟩, ⟨_, (bA 15 1497), rfl, by kernel_rfl, ?_⟩, ⟨_, (bA 15 3481), rfl, by kernel_rfl, ?_⟩, trivial⟩
  ·refine s_load h rfl rfl (hS.load_one (p := 1) rfl U22 rfl rfl) fun a h=>wpList_nil <| x_then_n ⟨(hS.sub (.cons le_100 (.zz .ii))), ?_⟩
   exact (hGD_1 _ _ _ _).1 (hD_35 _ _ ⟨N_136, (h.to rfl), (hS.sel [0, 1, 2, 3, 4] (by decide)), le_100⟩)
  ·have hq_21 : Reps (Kd.int .i64) Mem.no ([] : List Int) _ := (Reps.nil (Kd.int .i64) _)
   refine s_buildSlice h rfl U29 ti3 rfl rfl rfl .nil rfl rfl rfl hS hq_21 rfl fun w_141 v_143 M_140 hS' ho_98 a h => ?_
   replace hS : Sep w0 w_141 [_, _, _, _, _, M_140] Z := hS'
   refine ne (hS.sub (.cons le_100 (.zz (.rr (.rr (.rr .nn)))))) fun hs => ?_
   exact (hGD_1 _ _ _ _).1 (hD_40 _ _ ⟨v_143, N_136, M_140, (h.to rfl), (hS.sel [0, 1, 2, 3, 4, 5] (by decide)), le_100, ho_98⟩)
  ·refine s_load h rfl rfl (hS.load_one (p := 1) rfl U30 rfl rfl) fun a h=>wpList_nil <| x_then_n ⟨(hS.sub (.cons le_100 (.zz .ii))), ?_⟩
   exact (hGD_1 _ _ _ _).1 (hD_42 _ _ ⟨N_136, (h.to rfl), (hS.sel [0, 1, 2, 3, 4] (by decide)), le_100⟩)
 have hD_51 : ∀ (a : Act) (w_142 : World), (∃ (N_137 : Mem), Fr 144 a [(2, .pointer (some ⟨g_1, 0, none⟩)), (3, .pointer (some ⟨g_2, 0, none⟩)), (4, .pointer (some ⟨g_3, 0, none⟩)), (5, .pointer (some ⟨g_4, 0, none⟩)), (8, .pointer (some ⟨g_1, 0, none⟩)), (12, p0_1), (15, .pointer (some ⟨g_1, 2, none⟩)), (19, p0_3)] ∧ Sep w0 w_142 [N_137, bx g_1 32 [p0_0, p0_1, p0_2, p0_3], bx g_2 24 (E24 x1 p1_4 p1_5 p1_6), bx g_3 32 [nS, nS, nS, nS], bx g_4 91 [iV 0, nS, iV 0]] Z ∧ Mem.no.le N_137) → GD_1 9 (bA 15 3225) a w_142 := by
  rintro a w_142 ⟨N_137, h, hS, le_101⟩
  refine (hGD_1 _ _ _ _).2 <| h_evs [1, 6, 8] (by kernel_rfl) ⟨⟨_, (bA 15 3227), rfl, by kernel_rfl, ?_⟩, ⟨_, (bA 15 3289), rfl, by kernel_rfl, ?_⟩, ⟨_, (bA 15 3481), rfl, by kernel_rfl, ?_⟩, trivial⟩
  ·refine s_load h rfl rfl (hS.load_one (p := 1) rfl U22 rfl rfl) fun a h=>wpList_nil <| x_then_n ⟨(hS.sub (.cons le_101 (.zz .ii))), ?_⟩
   exact (hGD_1 _ _ _ _).1 (hD_36 _ _ ⟨N_137, (h.to rfl), (hS.sel [0, 1, 2, 3, 4] (by decide)), le_101⟩)
  ·have hq_22 : Reps (Kd.int .i64) Mem.no ([] : List Int) _ := (Reps.nil (Kd.int .i64) _)
   refine s_buildSlice h rfl U29 ti3 rfl rfl rfl .nil rfl rfl rfl hS hq_22 rfl fun w_143 v_144 M_141 hS' ho_99 a h => ?_
   replace hS : Sep w0 w_143 [_, _, _, _, _, M_141] Z := hS'
   refine ne (hS.sub (.cons le_101 (.zz (.rr (.rr (.rr .nn)))))) fun hs => ?_
   exact (hGD_1 _ _ _ _).1 (hD_41 _ _ ⟨v_144, N_137, M_141, (h.to rfl), (hS.sel [0, 1, 2, 3, 4, 5] (by decide)), le_101, ho_99⟩)
  ·refine s_load h rfl rfl (hS.load_one (p := 1) rfl U29 rfl rfl) fun a h=>wpList_nil <| x_then_n ⟨(hS.sub (.cons le_101 (.zz .ii))), ?_⟩
   exact (hGD_1 _ _ _ _).1 (hD_42 _ _ ⟨N_137, (h.to rfl), (hS.sel [0, 1, 2, 3, 4] (by decide)), le_101⟩)
 have hD_52 : ∀ (a : Act) (w_144 : World), (∃ (v_145 : Value) (N_138 : Mem) (M_142 : Mem), Fr 144 a [(2, .pointer (some ⟨g_1, 0, none⟩)), (3, .pointer (some ⟨g_2, 0, none⟩)), (4, .pointer (some ⟨g_3, 0, none⟩)), (5, .pointer (some ⟨g_4, 0, none⟩)), (8, .pointer (some ⟨g_1, 0, none⟩)), (11, .pointer (some ⟨g_1, 1, none⟩)), (14, v_145), (16, p0_2), (18, .pointer (some ⟨g_1, 3, none⟩))] ∧ Sep w0 w_144 [N_138, bx g_1 32 [p0_0, p0_1, p0_2, p0_3], bx g_2 24 (E24 x1 p1_4 p1_5 p1_6), bx g_3 32 [nS, nS, nS, nS], bx g_4 91 [iV 0, nS, iV 0], M_142] Z ∧ Mem.no.le N_138 ∧ Own (Kd.int .i64) 3 M_142 Mem.no v_145 ([] : List Int)) → GD_1 9 (bA 15 1481) a w_144 := by
  rintro a w_144 ⟨v_145, N_138, M_142, h, hS, le_102, ho_100⟩
  refine (hGD_1 _ _ _ _).2 <| h_evs [1, 4, 11] (by kernel_rfl) ⟨⟨_, (bA 15 1483), rfl, by kernel_rfl, ?_⟩, ⟨_, (bA 15 1497), rfl, by kernel_rfl, ?_⟩, ⟨_, (bA 15 3529), rfl, by kernel_rfl, ?_⟩, trivial⟩
  ·refine s_load h rfl rfl (hS.load_one (p := 1) rfl U22 rfl rfl) fun a h=>wpList_nil <| x_then_n ⟨(hS.sub (.cons le_102 (.zz (.rr (.rr (.rr .nn)))))), ?_⟩
   exact (hGD_1 _ _ _ _).1 (hD_37 _ _ ⟨v_145, N_138, M_142, (h.to rfl), (hS.sel [0, 1, 2, 3, 4, 5] (by decide)), le_102, ho_100⟩)
  ·refine s_load h rfl rfl (hS.load_one (p := 1) rfl U28 rfl rfl) fun a h=>wpList_nil <| x_then_n ⟨(hS.sub (.cons le_102 (.zz (.rr (.rr (.rr .nn)))))), ?_⟩
   exact (hGD_1 _ _ _ _).1 (hD_40 _ _ ⟨v_145, N_138, M_142, (h.to rfl), (hS.sel [0, 1, 2, 3, 4, 5] (by decide)), le_102, ho_100⟩)
  ·refine s_load h rfl rfl (hS.load_one (p := 1) rfl U30 rfl rfl) fun a h=>wpList_nil <| x_then_n ⟨(hS.sub (.cons le_102 (.zz (.rr (.rr (.rr .nn)))))), ?_⟩
   exact (hGD_1 _ _ _ _).1 (hD_43 _ _ ⟨v_145, N_138, M_142, (h.to rfl), (hS.sel [0, 1, 2, 3, 4, 5] (by decide)), le_102, ho_100⟩)
 have hD_53 : ∀ (a : Act) (w_145 : World), (∃ (v_146 : Value) (N_139 : Mem) (M_143 : Mem), Fr 144 a [(2, .pointer (some ⟨g_1, 0, none⟩)), (3, .pointer (some ⟨g_2, 0, none⟩)), (4, .pointer (some ⟨g_3, 0, none⟩)), (5, .pointer (some ⟨g_4, 0, none⟩)), (8, .pointer (some ⟨g_1, 0, none⟩)), (11, .pointer (some ⟨g_1, 1, none⟩)), (14, v_146), (15, .pointer (some ⟨g_1, 2, none⟩)), (19, p0_3)] ∧ Sep w0 w_145 [N_139, bx g_1 32 [p0_0, p0_1, p0_2, p0_3], bx g_2 24 (E24 x1 p1_4 p1_5 p1_6), bx g_3 32 [nS, nS, nS, nS], bx g_4 91 [iV 0, nS, iV 0], M_143] Z ∧ Mem.no.le N_139 ∧ Own (Kd.int .i64) 3 M_143 Mem.no v_146 ([] : List Int)) → GD_1 9 (bA 15 3273) a w_145 := by
  rintro a w_145 ⟨v_146, N_139, M_143, h, hS, le_103, ho_101⟩
  refine (hGD_1 _ _ _ _).2 <| h_evs [1, 4, 8] (by kernel_rfl) ⟨⟨_, (bA 15 3275), rfl, by kernel_rfl, ?_⟩, ⟨_, (bA 15 3289), rfl, by kernel_rfl, ?_⟩, ⟨_, (bA 15 3529), rfl, by kernel_rfl, ?_⟩, trivial⟩
  ·refine s_load h rfl rfl (hS.load_one (p := 1) rfl U22 rfl rfl) fun a h=>wpList_nil <| x_then_n ⟨(hS.sub (.cons le_103 (.zz (.rr (.rr (.rr .nn)))))), ?_⟩
   exact (hGD_1 _ _ _ _).1 (hD_38 _ _ ⟨v_146, N_139, M_143, (h.to rfl), (hS.sel [0, 1, 2, 3, 4, 5] (by decide)), le_103, ho_101⟩)
  ·refine s_load h rfl rfl (hS.load_one (p := 1) rfl U28 rfl rfl) fun a h=>wpList_nil <| x_then_n ⟨(hS.sub (.cons le_103 (.zz (.rr (.rr (.rr .nn)))))), ?_⟩
   exact (hGD_1 _ _ _ _).1 (hD_41 _ _ ⟨v_146, N_139, M_143, (h.to rfl), (hS.sel [0, 1, 2, 3, 4, 5] (by decide)), le_103, ho_101⟩)
  ·refine s_load h rfl rfl (hS.load_one (p := 1) rfl U29 rfl rfl) fun a h=>wpList_nil <| x_then_n ⟨(hS.sub (.cons le_103 (.zz (.rr (.rr (.rr .nn)))))), ?_⟩
   exact (hGD_1 _ _ _ _).1 (hD_43 _ _ ⟨v_146, N_139, M_143, (h.to rfl), (hS.sel [0, 1, 2, 3, 4, 5] (by decide)), le_103, ho_101⟩)
 have hD_54 : ∀ (a : Act) (w_146 : World), (∃ (N_140 : Mem), Fr 144 a [(2, .pointer (some ⟨g_1, 0, none⟩)), (3, .pointer (some ⟨g_2, 0, none⟩)), (4, .pointer (some ⟨g_3, 0, none⟩)), (5, .pointer (some ⟨g_4, 0, none⟩)), (8, .pointer (some ⟨g_1, 0, none⟩)), (11, .pointer (some ⟨g_1, 1, none⟩)), (16, p0_2), (19, p0_3)] ∧ Sep w0 w_146 [N_140, bx g_1 32 [p0_0, p0_1, p0_2, p0_3], bx g_2 24 (E24 x1 p1_4 p1_5 p1_6), bx g_3 32 [nS, nS, nS, nS], bx g_4 91 [iV 0, nS, iV 0]] Z ∧ Mem.no.le N_140) → GD_1 9 (bA 15 3465) a w_146 := by
  rintro a w_146 ⟨N_140, h, hS, le_104⟩
  refine (hGD_1 _ _ _ _).2 <| h_evs [1, 4, 6] (by kernel_rfl) ⟨⟨_, (bA 15 3467), rfl, by kernel_rfl, ?_⟩, ⟨_, (bA 15 3481), rfl, by kernel_rfl, ?_⟩, ⟨_, (bA 15 3529), rfl, by kernel_rfl, ?_⟩, trivial⟩
  ·refine s_load h rfl rfl (hS.load_one (p := 1) rfl U22 rfl rfl) fun a h=>wpList_nil <| x_then_n ⟨(hS.sub (.cons le_104 (.zz .ii))), ?_⟩
   exact (hGD_1 _ _ _ _).1 (hD_39 _ _ ⟨N_140, (h.to rfl), (hS.sel [0, 1, 2, 3, 4] (by decide)), le_104⟩)
  ·refine s_load h rfl rfl (hS.load_one (p := 1) rfl U28 rfl rfl) fun a h=>wpList_nil <| x_then_n ⟨(hS.sub (.cons le_104 (.zz .ii))), ?_⟩
   exact (hGD_1 _ _ _ _).1 (hD_42 _ _ ⟨N_140, (h.to rfl), (hS.sel [0, 1, 2, 3, 4] (by decide)), le_104⟩)
  ·have hq_23 : Reps (Kd.int .i64) Mem.no ([] : List Int) _ := (Reps.nil (Kd.int .i64) _)
   refine s_buildSlice h rfl U29 ti3 rfl rfl rfl .nil rfl rfl rfl hS hq_23 rfl fun w_147 v_147 M_144 hS' ho_102 a h => ?_
   replace hS : Sep w0 w_147 [_, _, _, _, _, M_144] Z := hS'
   refine ne (hS.sub (.cons le_104 (.zz (.rr (.rr (.rr .nn)))))) fun hs => ?_
   exact (hGD_1 _ _ _ _).1 (hD_43 _ _ ⟨v_147, N_140, M_144, (h.to rfl), (hS.sel [0, 1, 2, 3, 4, 5] (by decide)), le_104, ho_102⟩)
 have hD_55 : ∀ (a : Act) (w_148 : World), (∃ (N_141 : Mem), Fr 144 a [(2, .pointer (some ⟨g_1, 0, none⟩)), (3, .pointer (some ⟨g_2, 0, none⟩)), (4, .pointer (some ⟨g_3, 0, none⟩)), (5, .pointer (some ⟨g_4, 0, none⟩)), (9, p0_0), (11, .pointer (some ⟨g_1, 1, none⟩)), (15, .pointer (some ⟨g_1, 2, none⟩)), (18, .pointer (some ⟨g_1, 3, none⟩))] ∧ Sep w0 w_148 [N_141, bx g_1 32 [p0_0, p0_1, p0_2, p0_3], bx g_2 24 (E24 x1 p1_4 p1_5 p1_6), bx g_3 32 [nS, nS, nS, nS], bx g_4 91 [iV 0, nS, iV 0]] Z ∧ Mem.no.le N_141) → GD_1 10 (bA 15 1163) a w_148 := by
  rintro a w_148 ⟨N_141, h, hS, le_105⟩
  refine (hGD_1 _ _ _ _).2 <| h_evs [2, 4, 6, 8, 11] (by kernel_rfl) ⟨⟨_, (bA 15 1167), rfl, by kernel_rfl, ?_⟩, ⟨_, (bA 15 1179), rfl, by kernel_rfl, ?_⟩, ⟨_, (bA 15 1227), rfl, by kernel_rfl, ?_⟩, ⟨_, (bA 15 1419), rfl, by kernel_rfl, ?_⟩, ⟨_, (bA 15 3211), rfl, by kernel_rfl, ?_⟩, trivial⟩
  ·refine s_call h rfl Try.call101 rfl (hocketref4_own.calls x0.Reg _ t_1 w0 _ _ _ mr (hS.enter [] (by decide)) (hp0_0.mono (hA.trans (hS.le_zed []))) et_1) ?_
   rintro v_148 w_149 ⟨_, N_142, M_145, rfl, hS', hr_46⟩
   intro a h
   obtain ⟨N_143, hS'', le_106, ln_37⟩ := hS.call [] (by decide) rfl (l' := []) (ow := [_]) rfl hS'
   replace hS : Sep w0 w_149 [N_143, _, _, _, _, _] Z := hS''
   refine ne (hS.sub (.cons (le_105.trans le_106) (.zz (.rr (.rr (.rr .nn)))))) fun hs => ?_
   exact (hGD_1 _ _ _ _).1 (hD_44 _ _ ⟨v_148, N_143, M_145, (h.to rfl), (hS.sel [0, 1, 2, 3, 4, 5] (by decide)), (le_105.trans le_106), hr_46⟩)
  ·refine s_load h rfl rfl (hS.load_one (p := 1) rfl U28 rfl rfl) fun a h=>wpList_nil <| x_then_n ⟨(hS.sub (.cons le_105 (.zz .ii))), ?_⟩
   exact (hGD_1 _ _ _ _).1 (hD_45 _ _ ⟨N_141, (h.to rfl), (hS.sel [0, 1, 2, 3, 4] (by decide)), le_105⟩)
  ·have hq_24 : Reps (Kd.int .i64) Mem.no ([] : List Int) _ := (Reps.nil (Kd.int .i64) _)
   refine s_buildSlice h rfl U29 ti3 rfl rfl rfl .nil rfl rfl rfl hS hq_24 rfl fun w_150 v_149 M_146 hS' ho_103 a h => ?_
   replace hS : Sep w0 w_150 [_, _, _, _, _, M_146] Z := hS'
   refine ne (hS.sub (.cons le_105 (.zz (.rr (.rr (.rr .nn)))))) fun hs => ?_
   exact (hGD_1 _ _ _ _).1 (hD_46 _ _ ⟨v_149, N_141, M_146, (h.to rfl), (hS.sel [0, 1, 2, 3, 4, 5] (by decide)), le_105, ho_103⟩)
  ·refine s_load h rfl rfl (hS.load_one (p := 1) rfl U29 rfl rfl) fun a h=>wpList_nil <| x_then_n ⟨(hS.sub (.cons le_105 (.zz .ii))), ?_⟩
   exact (hGD_1 _ _ _ _).1 (hD_47 _ _ ⟨N_141, (h.to rfl), (hS.sel [0, 1, 2, 3, 4] (by decide)), le_105⟩)
  ·refine s_load h rfl rfl (hS.load_one (p := 1) rfl U30 rfl rfl) fun a h=>wpList_nil <| x_then_n ⟨(hS.sub (.cons le_105 (.zz .ii))), ?_⟩
   exact (hGD_1 _ _ _ _).1 (hD_48 _ _ ⟨N_141, (h.to rfl), (hS.sel [0, 1, 2, 3, 4] (by decide)), le_105⟩)
 have hD_56 : ∀ (a : Act) (w_151 : World), (∃ (N_144 : Mem), Fr 144 a [(2, .pointer (some ⟨g_1, 0, none⟩)), (3, .pointer (some ⟨g_2, 0, none⟩)), (4, .pointer (some ⟨g_3, 0, none⟩)), (5, .pointer (some ⟨g_4, 0, none⟩)), (8, .pointer (some ⟨g_1, 0, none⟩)), (12, p0_1), (15, .pointer (some ⟨g_1, 2, none⟩)), (18, .pointer (some ⟨g_1, 3, none⟩))] ∧ Sep w0 w_151 [N_144, bx g_1 32 [p0_0, p0_1, p0_2, p0_3], bx g_2 24 (E24 x1 p1_4 p1_5 p1_6), bx g_3 32 [nS, nS, nS, nS], bx g_4 91 [iV 0, nS, iV 0]] Z ∧ Mem.no.le N_144) → GD_1 10 (bA 15 1177) a w_151 := by
  rintro a w_151 ⟨N_144, h, hS, le_107⟩
  refine (hGD_1 _ _ _ _).2 <| h_evs [1, 6, 8, 11] (by kernel_rfl) ⟨⟨_, (bA 15 1179), rfl, by kernel_rfl, ?_⟩, ⟨_, (bA 15 1241), rfl, by kernel_rfl, ?_⟩, ⟨_, (bA 15 1433), rfl, by kernel_rfl, ?_⟩, ⟨_, (bA 15 3225), rfl, by kernel_rfl, ?_⟩, trivial⟩
  ·refine s_load h rfl rfl (hS.load_one (p := 1) rfl U22 rfl rfl) fun a h=>wpList_nil <| x_then_n ⟨(hS.sub (.cons le_107 (.zz .ii))), ?_⟩
   exact (hGD_1 _ _ _ _).1 (hD_45 _ _ ⟨N_144, (h.to rfl), (hS.sel [0, 1, 2, 3, 4] (by decide)), le_107⟩)
  ·have hq_25 : Reps (Kd.int .i64) Mem.no ([] : List Int) _ := (Reps.nil (Kd.int .i64) _)
   refine s_buildSlice h rfl U29 ti3 rfl rfl rfl .nil rfl rfl rfl hS hq_25 rfl fun w_152 v_150 M_147 hS' ho_104 a h => ?_
   replace hS : Sep w0 w_152 [_, _, _, _, _, M_147] Z := hS'
   refine ne (hS.sub (.cons le_107 (.zz (.rr (.rr (.rr .nn)))))) fun hs => ?_
   exact (hGD_1 _ _ _ _).1 (hD_49 _ _ ⟨v_150, N_144, M_147, (h.to rfl), (hS.sel [0, 1, 2, 3, 4, 5] (by decide)), le_107, ho_104⟩)
  ·refine s_load h rfl rfl (hS.load_one (p := 1) rfl U29 rfl rfl) fun a h=>wpList_nil <| x_then_n ⟨(hS.sub (.cons le_107 (.zz .ii))), ?_⟩
   exact (hGD_1 _ _ _ _).1 (hD_50 _ _ ⟨N_144, (h.to rfl), (hS.sel [0, 1, 2, 3, 4] (by decide)), le_107⟩)
  ·refine s_load h rfl rfl (hS.load_one (p := 1) rfl U30 rfl rfl) fun a h=>wpList_nil <| x_then_n ⟨(hS.sub (.cons le_107 (.zz .ii))), ?_⟩
   exact (hGD_1 _ _ _ _).1 (hD_51 _ _ ⟨N_144, (h.to rfl), (hS.sel [0, 1, 2, 3, 4] (by decide)), le_107⟩)
 have hD_57 : ∀ (a : Act) (w_153 : World), (∃ (v_151 : Value) (N_145 : Mem) (M_148 : Mem), Fr 144 a [(2, .pointer (some ⟨g_1, 0, none⟩)), (3, .pointer (some ⟨g_2, 0, none⟩)), (4, .pointer (some ⟨g_3, 0, none⟩)), (5, .pointer (some ⟨g_4, 0, none⟩)), (8, .pointer (some ⟨g_1, 0, none⟩)), (11, .pointer (some ⟨g_1, 1, none⟩)), (14, v_151), (15, .pointer (some ⟨g_1, 2, none⟩)), (18, .pointer (some ⟨g_1, 3, none⟩))] ∧ Sep w0 w_153 [N_145, bx g_1 32 [p0_0, p0_1, p0_2, p0_3], bx g_2 24 (E24 x1 p1_4 p1_5 p1_6), bx g_3 32 [nS, nS, nS, nS], bx g_4 91 [iV 0, nS, iV 0], M_148] Z ∧ Mem.no.le N_145 ∧ Own (Kd.int .i64) 3 M_148 Mem.no v_151 ([] : List Int)) → GD_1 10 (bA 15 1225) a w_153 := by
  rintro a w_153 ⟨v_151, N_145, M_148, h, hS, le_108, ho_105⟩
  refine (hGD_1 _ _ _ _).2 <| h_evs [1, 4, 8, 11] (by kernel_rfl) ⟨⟨_, (bA 15 1227), rfl, by kernel_rfl, ?_⟩, ⟨_, (bA 15 1241), rfl, by kernel_rfl, ?_⟩, ⟨_, (bA 15 1481), rfl, by kernel_rfl, ?_⟩, ⟨_, (bA 15 3273), rfl, by kernel_rfl, ?_⟩, trivial⟩
  ·refine s_load h rfl rfl (hS.load_one (p := 1) rfl U22 rfl rfl) fun a h=>wpList_nil <| x_then_n ⟨(hS.sub (.cons le_108 (.zz (.rr (.rr (.rr .nn)))))), ?_⟩
   exact (hGD_1 _ _ _ _).1 (hD_46 _ _ ⟨v_151, N_145, M_148, (h.to rfl), (hS.sel [0, 1, 2, 3, 4, 5] (by decide)), le_108, ho_105⟩)
  ·refine s_load h rfl rfl (hS.load_one (p := 1) rfl U28 rfl rfl) fun a h=>wpList_nil <| x_then_n ⟨(hS.sub (.cons le_108 (.zz (.rr (.rr (.rr .nn)))))), ?_⟩
   exact (hGD_1 _ _ _ _).1 (hD_49 _ _ ⟨v_151, N_145, M_148, (h.to rfl), (hS.sel [0, 1, 2, 3, 4, 5] (by decide)), le_108, ho_105⟩)
  ·refine s_load h rfl rfl (hS.load_one (p := 1) rfl U29 rfl rfl) fun a h=>wpList_nil <| x_then_n ⟨(hS.sub (.cons le_108 (.zz (.rr (.rr (.rr .nn)))))), ?_⟩
   exact (hGD_1 _ _ _ _).1 (hD_52 _ _ ⟨v_151, N_145, M_148, (h.to rfl), (hS.sel [0, 1, 2, 3, 4, 5] (by decide)), le_108, ho_105⟩)
  ·refine s_load h rfl rfl (hS.load_one (p := 1) rfl U30 rfl rfl) fun a h=>wpList_nil <| x_then_n ⟨(hS.sub (.cons le_108 (.zz (.rr (.rr (.rr .nn)))))), ?_⟩
   exact (hGD_1 _ _ _ _).1 (hD_53 _ _ ⟨v_151, N_145, M_148, (h.to rfl), (hS.sel [0, 1, 2, 3, 4, 5] (by decide)), le_108, ho_105⟩)
 have hD_58 : ∀ (a : Act) (w_154 : World), (∃ (N_146 : Mem), Fr 144 a [(2, .pointer (some ⟨g_1, 0, none⟩)), (3, .pointer (some ⟨g_2, 0, none⟩)), (4, .pointer (some ⟨g_3, 0, none⟩)), (5, .pointer (some ⟨g_4, 0, none⟩)), (8, .pointer (some ⟨g_1, 0, none⟩)), (11, .pointer (some ⟨g_1, 1, none⟩)), (16, p0_2), (18, .pointer (some ⟨g_1, 3, none⟩))] ∧ Sep w0 w_154 [N_146, bx g_1 32 [p0_0, p0_1, p0_2, p0_3], bx g_2 24 (E24 x1 p1_4 p1_5 p1_6), bx g_3 32 [nS, nS, nS, nS], bx g_4 91 [iV 0, nS, iV 0]] Z ∧ Mem.no.le N_146) → GD_1 10 (bA 15 1417) a w_154 := by
  rintro a w_154 ⟨N_146, h, hS, le_109⟩
  refine (hGD_1 _ _ _ _).2 <| h_evs [1, 4, 6, 11] (by kernel_rfl) ⟨⟨_, (bA 15 1419), rfl, by kernel_rfl, ?_⟩, ⟨_, (bA 15 1433), rfl, by kernel_rfl, ?_⟩, ⟨_, (bA 15 1481), rfl, by kernel_rfl, ?_⟩, ⟨_, (bA 15 3465), rfl, by kernel_rfl, ?_⟩, trivial⟩
  ·refine s_load h rfl rfl (hS.load_one (p := 1) rfl U22 rfl rfl) fun a h=>wpList_nil <| x_then_n ⟨(hS.sub (.cons le_109 (.zz .ii))), ?_⟩
   exact (hGD_1 _ _ _ _).1 (hD_47 _ _ ⟨N_146, (h.to rfl), (hS.sel [0, 1, 2, 3, 4] (by decide)), le_109⟩)
  ·refine s_load h rfl rfl (hS.load_one (p := 1) rfl U28 rfl rfl) fun a h=>wpList_nil <| x_then_n ⟨(hS.sub (.cons le_109 (.zz .ii))), ?_⟩
   exact (hGD_1 _ _ _ _).1 (hD_50 _ _ ⟨N_146, (h.to rfl), (hS.sel [0, 1, 2, 3, 4] (by decide)), le_109⟩)
  ·have hq_26 : Reps (Kd.int .i64) Mem.no ([] : List Int) _ := (Reps.nil (Kd.int .i64) _)
   refine s_buildSlice h rfl U29 ti3 rfl rfl rfl .nil rfl rfl rfl hS hq_26 rfl fun w_155 v_152 M_149 hS' ho_106 a h => ?_
   replace hS : Sep w0 w_155 [_, _, _, _, _, M_149] Z := hS'
   refine ne (hS.sub (.cons le_109 (.zz (.rr (.rr (.rr .nn)))))) fun hs => ?_
   exact (hGD_1 _ _ _ _).1 (hD_52 _ _ ⟨v_152, N_146, M_149, (h.to rfl), (hS.sel [0, 1, 2, 3, 4, 5] (by decide)), le_109, ho_106⟩)
  ·refine s_load h rfl rfl (hS.load_one (p := 1) rfl U30 rfl rfl) fun a h=>wpList_nil <| x_then_n ⟨(hS.sub (.cons le_109 (.zz .ii))), ?_⟩
   exact (hGD_1 _ _ _ _).1 (hD_54 _ _ ⟨N_146, (h.to rfl), (hS.sel [0, 1, 2, 3, 4] (by decide)), le_109⟩)
 have hD_59 : ∀ (a : Act) (w_156 : World), (∃ (N_147 : Mem), Fr 144 a [(2, .pointer (some ⟨g_1, 0, none⟩)), (3, .pointer (some ⟨g_2, 0, none⟩)), (4, .pointer (some ⟨g_3, 0, none⟩)), (5, .pointer (some ⟨g_4, 0, none⟩)), (8, .pointer (some ⟨g_1, 0, none⟩)), (11, .pointer (some ⟨g_1, 1, none⟩)), (15, .pointer (some ⟨g_1, 2, none⟩)), (19, p0_3)] ∧ Sep w0 w_156 [N_147, bx g_1 32 [p0_0, p0_1, p0_2, p0_3], bx g_2 24 (E24 x1 p1_4 p1_5 p1_6), bx g_3 32 [nS, nS, nS, nS], bx g_4 91 [iV 0, nS, iV 0]] Z ∧ Mem.no.le N_147) → GD_1 10 (bA 15 3209) a w_156 := by
  rintro a w_156 ⟨N_147, h, hS, le_110⟩
  refine (hGD_1 _ _ _ _).2 <| h_evs [1, 4, 6, 8] (by kernel_rfl) ⟨⟨_, (bA 15 3211), rfl, by kernel_rfl, ?_⟩, ⟨_, (bA 15 3225), rfl, by kernel_rfl, ?_⟩, ⟨_, (bA 15 3273), rfl, by kernel_rfl, ?_⟩, ⟨_, (bA 15 3465), rfl, by kernel_rfl, ?_⟩, trivial⟩
  ·refine s_load h rfl rfl (hS.load_one (p := 1) rfl U22 rfl rfl) fun a h=>wpList_nil <| x_then_n ⟨(hS.sub (.cons le_110 (.zz .ii))), ?_⟩
   exact (hGD_1 _ _ _ _).1 (hD_48 _ _ ⟨N_147, (h.to rfl), (hS.sel [0, 1, 2, 3, 4] (by decide)), le_110⟩)
  ·refine s_load h rfl rfl (hS.load_one (p := 1) rfl U28 rfl rfl) fun a h=>wpList_nil <| x_then_n ⟨(hS.sub (.cons le_110 (.zz .ii))), ?_⟩
   exact (hGD_1 _ _ _ _).1 (hD_51 _ _ ⟨N_147, (h.to rfl), (hS.sel [0, 1, 2, 3, 4] (by decide)), le_110⟩)
  ·have hq_27 : Reps (Kd.int .i64) Mem.no ([] : List Int) _ := (Reps.nil (Kd.int .i64) _)
   refine s_buildSlice h rfl U29 ti3 rfl rfl rfl .nil rfl rfl rfl hS hq_27 rfl fun w_157 v_153 M_150 hS' ho_107 a h => ?_
   replace hS : Sep w0 w_157 [_, _, _, _, _, M_150] Z := hS'
   refine ne (hS.sub (.cons le_110 (.zz (.rr (.rr (.rr .nn)))))) fun hs => ?_
   exact (hGD_1 _ _ _ _).1 (hD_53 _ _ ⟨v_153, N_147, M_150, (h.to rfl), (hS.sel [0, 1, 2, 3, 4, 5] (by decide)), le_110, ho_107⟩)
  ·refine s_load h rfl rfl (hS.load_one (p := 1) rfl U29 rfl rfl) fun a h=>wpList_nil <| x_then_n ⟨(hS.sub (.cons le_110 (.zz .ii))), ?_⟩
   exact (hGD_1 _ _ _ _).1 (hD_54 _ _ ⟨N_147, (h.to rfl), (hS.sel [0, 1, 2, 3, 4] (by decide)), le_110⟩)
 refine (hGD_1 _ _ _ _).2 <| h_evs [1, 4, 6, 8, 11] (by kernel_rfl) ⟨⟨_, (bA 15 1163), rfl, by kernel_rfl, ?_⟩, ⟨_, (bA 15 1177), rfl, by kernel_rfl, ?_⟩, ⟨_, (bA 15 1225), rfl, by kernel_rfl, ?_⟩, ⟨_, (bA 15 1417), rfl, by kernel_rfl, ?_⟩, ⟨_, (bA 15 3209), rfl, by kernel_rfl, ?_⟩, trivial⟩
 ·refine s_load h rfl rfl (hS.load_one (p := 1) rfl U22 rfl rfl) fun a h=>wpList_nil <| x_then_n ⟨(hS.sub (.cons mr (.zz .ii))), ?_⟩
  exact (hGD_1 _ _ _ _).1 (hD_55 _ _ ⟨Mem.no, (h.to rfl), (hS.sel [0, 1, 2, 3, 4] (by decide)), mr⟩)
 ·refine s_load h rfl rfl (hS.load_one (p := 1) rfl U28 rfl rfl) fun a h=>wpList_nil <| x_then_n ⟨(hS.sub (.cons mr (.zz .ii))), ?_⟩
  exact (hGD_1 _ _ _ _).1 (hD_56 _ _ ⟨Mem.no, (h.to rfl), (hS.sel [0, 1, 2, 3, 4] (by decide)), mr⟩)
 ·have hq_28 : Reps (Kd.int .i64) Mem.no ([] : List Int) _ := (Reps.nil (Kd.int .i64) _)
  refine s_buildSlice h rfl U29 ti3 rfl rfl rfl .nil rfl rfl rfl hS hq_28 rfl fun w_158 v_154 M_151 hS' ho_108 a h => ?_
  replace hS : Sep w0 w_158 [_, _, _, _, _, M_151] Z := hS'
  refine ne (hS.sub (.cons mr (.zz (.rr (.rr (.rr .nn)))))) fun hs => ?_
  exact (hGD_1 _ _ _ _).1 (hD_57 _ _ ⟨v_154, Mem.no, M_151, (h.to rfl), (hS.sel [0, 1, 2, 3, 4, 5] (by decide)), mr, ho_108⟩)
 ·refine s_load h rfl rfl (hS.load_one (p := 1) rfl U29 rfl rfl) fun a h=>wpList_nil <| x_then_n ⟨(hS.sub (.cons mr (.zz .ii))), ?_⟩
  exact (hGD_1 _ _ _ _).1 (hD_58 _ _ ⟨Mem.no, (h.to rfl), (hS.sel [0, 1, 2, 3, 4] (by decide)), mr⟩)
 ·refine s_load h rfl rfl (hS.load_one (p := 1) rfl U30 rfl rfl) fun a h=>wpList_nil <| x_then_n ⟨(hS.sub (.cons mr (.zz .ii))), ?_⟩
  exact (hGD_1 _ _ _ _).1 (hD_59 _ _ ⟨Mem.no, (h.to rfl), (hS.sel [0, 1, 2, 3, 4] (by decide)), mr⟩)

set_option maxHeartbeats 4000000 in
set_option maxRecDepth 20000 in
theorem hocketref4_table.calls (K : Nat) (x0 : List api_Last) (p0_0 : Value) (r : (List api_Last)) (w0 w : World) (Z A : Mem) (hA : A.le Z) (hS : Sep w0 w [] Z) (hp0_0 : Rd k_api_Last A p0_0 x0)
    (H : hocketref4_table.f K x0 = some r) :
    Calls Try.prog 81 [p0_0].toArray w (Ret fun v w' => ∃ (u0 : Value) (N : Mem) (M0 : Mem), v = u0 ∧ Sep w0 w' [N, M0] Z ∧ Own k_api_Last 93 M0 N u0 r) := by
 unfold hocketref4_table.f at H
 refine f_enter _ Try.func81 rfl Try.ntmps81 rfl fun a h=>?_
 replace h : Fr 32 a [(0, p0_0)] := h
 replace hS := hS.start
 refine qr <| sg h rfl fun a h=>nx <| qr <| sg h rfl fun a h=>nx <| c_seq fun KJ_1 hKJ_1 => wp_seq <| wp_region_lit ?_
 refine sg h rfl fun a h=>wpList_nil <| x_then_n ?_
 have hJ_j_1 : ∀ (x_1 : List api_Last), hocketref4_table.J1 K x_1 = some r → ∀ (a : Act) (w_1 : World), (∃ (v_1 : Value) (N_1 : Mem) (M_1 : Mem), Fr 32 a [(2, nS), (3, v_1)] ∧ Sep w0 w_1 [N_1, M_1] Z ∧ Mem.no.le N_1 ∧ Own k_api_Last 93 M_1 N_1 v_1 x_1) → KJ_1 a w_1 := by
  clear H h hS a
  rintro x_1 H a w_1 ⟨v_1, N_1, M_1, h, hS, le_1, ho_1⟩
  unfold hocketref4_table.J1 at H
  refine hKJ_1 _ _ <| qr <| mv h rfl fun a h=>sg h rfl fun a h=>wpList_nil ?_
  replace h : Fr 32 a [(2, v_1)] := h.keep [2]
  refine x_then_n <| wp_ret ?_
  obtain rfl := Option.some.inj H
  exact r1 h 2 rfl rfl ⟨_, rfl, v_1, N_1, M_1, rfl, (hS.sel [0, 1] (by decide)), (ho_1.mono mr)⟩
 clear hKJ_1
 have hS' := hS.room
 replace hS : Sep w0 w [_, Mem.no] Z := hS'
 refine c_block <| c_loop (fun k_1 a w_2 => ∃ (x_2 : List api_Last) (x_3 : Int) (v_2 : Value) (N_2 : Mem) (M_2 : Mem), hocketref4_table.L1 K x0 (fun v => hocketref4_table.J1 K v) k_1 (x_2, x_3) = some r ∧ Fr 32 a [(0, p0_0), (2, nS), (3, v_2), (4, iV x_3)] ∧ Sep w0 w_2 [N_2, M_2] Z ∧ Mem.no.le N_2 ∧ Own k_api_Last 93 M_2 N_2 v_2 x_2) K ⟨([] : List api_Last), 0, nS, Mem.no, Mem.no, H, (h.to rfl), (hS.sel [0, 1] (by decide)), mr, ((Own.nil k_api_Last 93 Mem.no).mono mr)⟩ (fun a w h => by obtain ⟨_, _, _, _, _, H, _⟩ := h; cases (show (none : Option ((List api_Last))) = some r from H)) ?_
 clear h hS a H
 rintro k_1 a w_2 KL_1 hKL_1 ⟨x_2, x_3, v_2, N_2, M_2, H, h, hS, le_2, ho_2⟩
 replace H : hocketref4_table.B1 K x0 (fun v => hocketref4_table.J1 K v) (hocketref4_table.L1 K x0 (fun v => hocketref4_table.J1 K v) k_1) x_2 x_3 = some r := H
 unfold hocketref4_table.B1 at H
 refine c_seq fun KJ_2 hKJ_2 => qr <| mv h rfl fun a h=>mv h rfl fun a h=>s_len h rfl U33 rfl hp0_0 fun a h=>s_cmp (b := decide (x_3 < (x0.length : Int))) h rfl rfl rfl (.inr (.inr (.inl ⟨rfl, rfl⟩))) fun a h=>wpList_nil ?_
 replace h : Fr 32 a [(0, _), (2, _), (3, _), (4, _), (8, .bool (decide (x_3 < (x0.length : Int))))] := h.keep [0, 2, 3, 4, 8]
 refine x_then_n ?_
 obtain ⟨hc_1, H⟩ | ⟨hc_1, H⟩ := ii H
 ·refine c_cond_t h rfl (dt hc_1) <| wp_skip <| x_then_n (hKJ_2 _ _ ?_)
  refine c_seq fun KJ_3 hKJ_3 => c_block <| h_begin (S := fun w => Sep w0 w [N_2, Mem.no] Z) 21 (by kernel_rfl) rfl (bA 21 0) (by kernel_rfl) hS fun w_3 hS => ?_
  refine t_take 0 (bA 21 1) rfl rfl rfl rfl h (hS.sub (.cons mr (.zz .ii))) (v := v_2) (fun w hS => r_move h rfl) fun a h=>t_take 1 (bA 21 3) rfl rfl rfl rfl h (hS.sub (.cons mr (.zz .ii))) (v := p0_0) (fun w hS => r_move h rfl) fun a h=>t_take 2 (bA 21 7) rfl rfl rfl rfl h (hS.sub (.cons mr (.zz .ii))) (v := iV x_3) (fun w hS => r_move h rfl) fun a h=>?_
  obtain ⟨t_1, et_1, H⟩ := bs H
  refine t_takeE 3 (bA 21 15) rfl rfl rfl rfl h (hS.sub (.cons mr (.zz .ii))) (f := fun ad => .pointer (some ad)) (r_index h U33 ti93 rfl rfl rfl hp0_0 et_1) ?_
  rintro ad_1 ⟨cs_1, hk_1, hc_2⟩
  obtain ⟨v_3, rfl, hr_1⟩ := k_api_Last.open' hk_1
  intro a h
  refine t_take 4 (bA 21 31) rfl rfl rfl rfl h (hS.sub (.cons mr (.zz .ii))) (v := .pointer (some (ad_1.add 0))) (fun w hS => r_fieldAddr h U93 rfl ti3 rfl rfl rfl) fun a h=>t_take 5 (bA 21 63) rfl rfl rfl rfl h (hS.sub (.cons mr (.zz .ii))) (v := iV t_1.Sess) (fun w hS => r_load h rfl (el_one (o := 0) (fun j c h => Mem.cell_le (hA.trans hS.old) (hc_2 j c h)) U3 rfl rfl)) fun a h=>t_take 6 (bA 21 127) rfl rfl rfl rfl h (hS.sub (.cons mr (.zz .ii))) (v := p0_0) (fun w hS => r_move h rfl) fun a h=>t_take 7 (bA 21 255) rfl rfl rfl rfl h (hS.sub (.cons mr (.zz .ii))) (v := iV x_3) (fun w hS => r_move h rfl) fun a h=>?_
  obtain ⟨t_2, et_2, H⟩ := bs H
  refine t_takeE 8 (bA 21 511) rfl rfl rfl rfl h (hS.sub (.cons mr (.zz .ii))) (f := fun ad => .pointer (some ad)) (r_index h U33 ti93 rfl rfl rfl hp0_0 et_2) ?_
  rintro ad_2 ⟨cs_2, hk_2, hc_3⟩
  obtain ⟨v_4, rfl, hr_2⟩ := k_api_Last.open' hk_2
  intro a h
  refine t_take 9 (bA 21 1023) rfl rfl rfl rfl h (hS.sub (.cons mr (.zz .ii))) (v := .pointer (some (ad_2.add 1))) (fun w hS => r_fieldAddr h U93 rfl ti3 rfl rfl rfl) fun a h=>t_take 10 (bA 21 2047) rfl rfl rfl rfl h (hS.sub (.cons mr (.zz .ii))) (v := iV t_2.Seq) (fun w hS => r_load h rfl (el_one (o := 1) (fun j c h => Mem.cell_le (hA.trans hS.old) (hc_3 j c h)) U3 rfl rfl)) fun a h=>t_take 11 (bA 21 4095) rfl rfl rfl rfl h (hS.sub (.cons mr (.zz .ii))) (v := p0_0) (fun w hS => r_move h rfl) fun a h=>t_take 12 (bA 21 8191) rfl rfl rfl rfl h (hS.sub (.cons mr (.zz .ii))) (v := iV x_3) (fun w hS => r_move h rfl) fun a h=>?_
  obtain ⟨t_3, et_3, H⟩ := bs H
  refine t_takeE 13 (bA 21 16383) rfl rfl rfl rfl h (hS.sub (.cons mr (.zz .ii))) (f := fun ad => .pointer (some ad)) (r_index h U33 ti93 rfl rfl rfl hp0_0 et_3) ?_
  rintro ad_3 ⟨cs_3, hk_3, hc_4⟩
  obtain ⟨v_5, rfl, hr_3⟩ := k_api_Last.open' hk_3
  intro a h
  refine t_take 14 (bA 21 32767) rfl rfl rfl rfl h (hS.sub (.cons mr (.zz .ii))) (v := .pointer (some (ad_3.add 2))) (fun w hS => r_fieldAddr h U93 rfl ti91 rfl rfl rfl) fun a h=>t_take 15 (bA 21 65535) rfl rfl rfl rfl h (hS.sub (.cons mr (.zz .ii))) (v := .agg (E91 t_3.Result v_5).toArray) (fun w hS => r_load h rfl (el_agg (o := 2) (us := (E91 t_3.Result v_5)) (fun j c h => Mem.cell_le (hA.trans hS.old) (hc_4 j c h)) U91 rfl ti91 rfl rfl)) fun a h=>h_event 16 (bA 21 131071) rfl (by kernel_rfl) (by kernel_rfl) ?_
  obtain ⟨t_4, et_4, H⟩ := bs H
  refine s_call h rfl Try.call100 rfl (hocketref4_result.calls t_3.Result _ t_4 w0 _ _ _ mr (hS.enter [] (by decide)) (hr_3.mono (hA.trans (hS.le_zed []))) et_4) ?_
  rintro _ w_4 ⟨v_6, N_3, M_3, rfl, hS', hr_4⟩
  intro a h
  obtain ⟨N_4, hS'', le_3, ln_1⟩ := hS.call [] (by decide) rfl (l' := []) (ow := [_]) rfl hS'
  replace hS : Sep w0 w_4 [N_4, _, _] Z := hS''
  refine ne (hS.sub (.cons le_3 (.zz .nn))) fun hs => ?_
  refine t_take 17 (bA 21 262143) rfl rfl rfl rfl h hs (v := .agg ([iV t_1.Sess, iV t_2.Seq, iV t_4.Err, v_6, iV t_4.N] : List Value).toArray) (fun w hS => r_build h ti93 pl93 rfl (.cons rfl (.cons rfl (.cons rfl .nil))) (cs := [iV t_1.Sess, iV t_2.Seq, iV t_4.Err, v_6, iV t_4.N]) (by kernel_rfl)) fun a h=>h_event 18 (bA 21 524287) rfl (by kernel_rfl) (by kernel_rfl) ?_
  obtain ⟨N_5, hS', le_4, lo_1⟩ := hS.freeze 1 rfl
  replace hS : Sep w0 w_4 [N_5, _, Mem.no] Z := hS'
  have hq_1 : Reps k_api_Last N_5 ([(⟨t_1.Sess, t_2.Seq, t_4⟩ : api_Last)] : List api_Last) _ := ((Reps.one (d := k_api_Last) (x := (⟨t_1.Sess, t_2.Seq, t_4⟩ : api_Last)) (k_api_Last.mk' (hr_4.rd lo_1 (Mem.no_le _)))).append (Reps.nil k_api_Last _))
  refine s_buildSlice h rfl U33 ti93 rfl rfl rfl (.cons rfl .nil) rfl rfl rfl hS hq_1 rfl fun w_5 v_7 M_4 hS' ho_3 a h => ?_
  replace hS : Sep w0 w_5 [_, _, _, M_4] Z := hS'
  refine ne (hS.sub (.cons (le_3.trans le_4) (.zz .nn))) fun hs => ?_
  refine h_event 19 (bA 21 1048575) rfl (by kernel_rfl) (by kernel_rfl) ?_
  obtain ⟨t_5, et_5, H⟩ := bs H
  refine s_append (J := N_5) (I' := N_5) (p := 1) 2513169434916 h rfl rfl rfl U33 ti93 rfl rfl rfl rfl hS rfl ho_2 (ho_3.src (hS.own 3)) (le_3.trans le_4) mr et_5 fun w_6 v_8 M_5 hS' ho_4 a h => ?_
  replace hS : Sep w0 w_6 [_, M_5, _, _] Z := hS'
  refine ne (hS.sub (.cons (le_3.trans le_4) (.zz .nn))) fun hs => ?_
  refine t_take 20 (bA 21 2097151) rfl rfl rfl rfl h hs (v := v_8) (fun w hS => r_assign h rfl) fun a h=>h_done (by kernel_rfl) <| x_block_n <| x_then_n (hKJ_3 _ _ ?_)
  refine wp_region_lit <| mv h rfl fun a h=>s_arith (r := w64 (x_3 + 1)) h rfl rfl rfl (.inl ⟨rfl, rfl⟩) fun a h=>sg h rfl fun a h=>wpList_nil <| x_then_n (hKL_1 _ _ ?_)
  exact ⟨t_5, w64 (x_3 + 1), v_8, N_5, M_5, H, (h.to rfl), (hS.sel [0, 1] (by decide)), (le_2.trans (le_3.trans le_4)), (ho_4.mono mr)⟩
 ·refine c_cond_f h rfl (df hc_1) <| wp_exit (x_then_x (x_then_x (x_block_t ?_)))
  exact x_then_n (hJ_j_1 x_2 H _ _ ⟨v_2, N_2, M_2, (h.to rfl), (hS.sel [0, 1] (by decide)), le_2, (ho_2.mono mr)⟩)

set_option maxHeartbeats 4000000 in
set_option maxRecDepth 20000 in
theorem hocketref4_PutLast.calls (K : Nat) (x0 : List api_Last) (p0_0 : Value) (x1 : Int) (x2 : Int) (x3 : api_Result) (p3_1 : Value) (r : (List api_Last)) (w0 w : World) (Z A : Mem) (hA : A.le Z) (hS : Sep w0 w [] Z) (hp0_0 : Rd k_api_Last A p0_0 x0) (hp3_1 : Rd Kd.u8 A p3_1 x3.Val)
    (H : hocketref4_PutLast.f K x0 x1 x2 x3 = some r) :
    Calls Try.prog 82 [p0_0, iV x1, iV x2, .agg (E91 x3 p3_1).toArray].toArray w (Ret fun v w' => ∃ (u0 : Value) (N : Mem) (M0 : Mem), v = u0 ∧ Sep w0 w' [N, M0] Z ∧ Own k_api_Last 93 M0 N u0 r) := by
 unfold hocketref4_PutLast.f at H
 refine f_enter _ Try.func82 rfl Try.ntmps82 rfl fun a h=>?_
 replace h : Fr 52 a [(0, p0_0), (1, iV x1), (2, iV x2), (3, .agg (E91 x3 p3_1).toArray)] := h
 replace hS := hS.start
 refine qr <| v_box (vs := (E91 x3 p3_1)) h rfl rfl rfl hS fun w_1 g_1 hS' a h => ?_
 replace hS : Sep w0 w_1 [_, bx g_1 91 (E91 x3 p3_1)] Z := hS'
 refine sg h rfl fun a h=>nx <| qr <| mv h rfl fun a h=>?_
 obtain ⟨t_1, et_1, H⟩ := bs H
 refine s_call h rfl Try.call81 rfl (hocketref4_table.calls K x0 _ t_1 w0 _ _ _ mr (hS.enter [] (by decide)) (hp0_0.mono (hA.trans (hS.le_zed []))) et_1) ?_
 rintro v_1 w_2 ⟨_, N_1, M_1, rfl, hS', hr_1⟩
 intro a h
 obtain ⟨N_2, hS'', le_1, ln_1⟩ := hS.call [] (by decide) rfl (l' := []) (ow := [_]) rfl hS'
 replace hS : Sep w0 w_2 [N_2, _, _] Z := hS''
 refine sg h rfl fun a h=>nx <| qr <| mv h rfl fun a h=>mv h rfl fun a h=>?_
 obtain ⟨t_2, et_2, H⟩ := bs H
 refine s_call h rfl Try.call99 rfl (hocketref4_at.calls K x0 _ x1 t_2 w0 _ _ _ mr (hS.enter [] (by decide)) (hp0_0.mono (hA.trans (hS.le_zed []))) et_2) ?_
 rintro _ w_3 ⟨N_3, rfl, hS'⟩
 intro a h
 obtain ⟨N_4, hS'', le_2, ln_2⟩ := hS.call [] (by decide) rfl (l' := []) (ow := []) rfl hS'
 replace hS : Sep w0 w_3 [N_4, _, _] Z := hS''
 refine sg h rfl fun a h=>nx <| qr <| mv h rfl fun a h=>mv h rfl fun a h=>s_load h rfl rfl (hS.load_agg (p := 1) (us := (E91 x3 p3_1)) rfl U91 rfl ti91 rfl rfl) fun a h=>?_
 obtain ⟨t_3, et_3, H⟩ := bs H
 refine s_call h rfl Try.call100 rfl (hocketref4_result.calls x3 _ t_3 w0 _ _ _ mr (hS.enter [] (by decide)) (hp3_1.mono (hA.trans (hS.le_zed []))) et_3) ?_
 rintro _ w_4 ⟨v_2, N_5, M_2, rfl, hS', hr_2⟩
 intro a h
 obtain ⟨N_6, hS'', le_3, ln_3⟩ := hS.call [] (by decide) rfl (l' := []) (ow := [_]) rfl hS'
 replace hS : Sep w0 w_4 [N_6, _, _, _] Z := hS''
 refine s_build h rfl ti93 pl93 rfl (.cons rfl (.cons rfl (.cons rfl .nil))) (cs := [iV x1, iV x2, iV t_3.Err, v_2, iV t_3.N]) (by kernel_rfl) fun a h=>v_alloc h rfl ti93 hS fun w_5 g_2 hS' a h => ?_
 replace hS : Sep w0 w_5 [_, _, _, _, bx g_2 93 [iV 0, iV 0, iV 0, nS, iV 0]] Z := hS'
 refine sto 4 h rfl rfl hS rfl ti93 rfl rfl rfl (oa 3 rfl (oc hr_2.one (oz rfl))) fun w_6 hS' => ?_
 replace hS : Sep w0 w_6 [_, _, _, _, bx g_2 93 [iV x1, iV x2, iV t_3.Err, v_2, iV t_3.N]] Z := hS'
 refine wpList_nil ?_
 replace h : Fr 52 a [(1, _), (8, nS), (9, v_1), (10, iV t_2), (11, .pointer (some ⟨g_2, 0, none⟩))] := h.keep [1, 8, 9, 10, 11]
 refine x_then_n <| c_seq fun KJ_1 hKJ_1 => c_seq fun KJ_2 hKJ_2 => ?_
 have hJ_j_1 : ∀ (x_1 : Bool), hocketref4_PutLast.J1 K t_1 t_2 x1 x2 t_3 x_1 = some r → ∀ (a : Act) (w_7 : World), (∃ (N_7 : Mem), Fr 52 a [(8, nS), (9, v_1), (10, iV t_2), (11, .pointer (some ⟨g_2, 0, none⟩)), (34, .bool x_1)] ∧ Sep w0 w_7 [N_7, Mem.no, M_1, M_2, bx g_2 93 [iV x1, iV x2, iV t_3.Err, v_2, iV t_3.N]] Z ∧ N_6.le N_7) → KJ_2 a w_7 := by
  clear H h hS a
  rintro x_1 H a w_7 ⟨N_7, h, hS, le_4⟩
  unfold hocketref4_PutLast.J1 at H
  refine hKJ_2 _ _ ?_
  obtain ⟨hc_1, H⟩ | ⟨hc_1, H⟩ := ii H
  ·refine c_cond_t h rfl hc_1 <| qr <| mv h rfl fun a h=>mv h rfl fun a h=>s_load h rfl rfl (hS.load_agg (p := 4) (us := [iV x1, iV x2, iV t_3.Err, v_2, iV t_3.N]) rfl U93 rfl ti93 rfl rfl) fun a h=>?_
   obtain ⟨t_4, et_4, H⟩ := bs H
   refine s_indexOwn h rfl U33 ti93 rfl rfl rfl (hr_1.mono ln_1) et_4 fun g_3 cur_35 hM_1 a h => ?_
   obtain ⟨N_8, hS', le_5, lo_1⟩ := hS.freeze 2 rfl
   replace hS : Sep w0 w_7 [N_8, _, _, Mem.no, _] Z := hS'
   obtain ⟨w_8, M_3, hs', hS', ho_1⟩ := Own.stored (P := Try.prog) (p := 2) (t := 93) (o := 0) (nv := .agg ([iV x1, iV x2, iV t_3.Err, v_2, iV t_3.N] : List Value).toArray) (vs := [iV x1, iV x2, iV t_3.Err, v_2, iV t_3.N]) (u' := (⟨x1, x2, t_3⟩ : api_Last)) hS rfl ((hr_1.mono ln_1).mono (le_2.trans (le_3.trans (le_4.trans le_5)))) hM_1 et_4 ti93 rfl rfl rfl (oa 3 rfl (oc (hr_2.rd lo_1 (Mem.no_le _)).one (oz rfl))) (by intro cs hk; obtain ⟨v_3, rfl, hr_3⟩ := k_api_Last.open' hk; exact k_api_Last.mk' (hr_2.rd lo_1 (Mem.no_le _)))
   refine s_store h rfl rfl hs' ?_
   replace hS : Sep w0 w_8 [_, _, M_3, _, _] Z := hS'
   refine nx <| qr <| mv h rfl fun a h=>sg h rfl fun a h=>nx <| wp_ret (x_then_r ?_)
   obtain rfl := Option.some.inj H
   exact r1 h 8 rfl rfl ⟨_, rfl, v_1, N_8, M_3, rfl, (hS.sel [0, 2] (by decide)), (ho_1.mono mr)⟩
  ·refine c_cond_f h rfl (ef hc_1) <| wp_skip <| x_then_n (hKJ_1 _ _ ?_)
   refine c_seq fun KJ_3 hKJ_3 => ?_
   obtain ⟨N_9, hS', le_6, lo_2⟩ := hS.freeze 1 rfl
   replace hS : Sep w0 w_7 [N_9, _, Mem.no, _, _] Z := hS'
   refine h_begin (S := fun w => Sep w0 w [N_9, Mem.no, Mem.no, Mem.no, bx g_2 93 [iV x1, iV x2, iV t_3.Err, v_2, iV t_3.N]] Z) 13 (by kernel_rfl) rfl (bA 13 0) (by kernel_rfl) hS fun w_9 hS => ?_
   refine t_take 1 (bA 13 2) rfl rfl rfl rfl h (hS.sub (.cons mr (.zz (.zz (.zz .ii))))) (v := v_1) (fun w hS => r_move h rfl) fun a h=>t_take 2 (bA 13 6) rfl rfl rfl rfl h (hS.sub (.cons mr (.zz (.zz (.zz .ii))))) (v := iV t_2) (fun w hS => r_move h rfl) fun a h=>?_
   obtain ⟨t_5, et_5, H⟩ := bs H
   refine t_takeE 3 (bA 13 14) rfl rfl rfl rfl h (hS.sub (.cons mr (.zz (.zz (.zz .ii))))) (f := fun v => v) (r_slice h U33 ti93 rfl rfl ((hr_1.mono ln_1).rd lo_2 (le_2.trans (le_3.trans (le_4.trans le_6)))) rfl rfl et_5) fun v_4 hr_4 a h => t_take 5 (bA 13 46) rfl rfl rfl rfl h (hS.sub (.cons mr (.zz (.zz (.zz .ii))))) (v := .agg ([iV x1, iV x2, iV t_3.Err, v_2, iV t_3.N] : List Value).toArray) (fun w hS => r_load h rfl (hS.load_agg (p := 4) (us := [iV x1, iV x2, iV t_3.Err, v_2, iV t_3.N]) rfl U93 rfl ti93 rfl rfl)) fun a h=>t_take 8 (bA 13 302) rfl rfl rfl rfl h (hS.sub (.cons mr (.zz (.zz (.zz .ii))))) (v := v_1) (fun w hS => r_move h rfl) fun a h=>t_take 9 (bA 13 814) rfl rfl rfl rfl h (hS.sub (.cons mr (.zz (.zz (.zz .ii))))) (v := iV t_2) (fun w hS => r_move h rfl) fun a h=>?_
   obtain ⟨t_6, et_6, H⟩ := bs H
   refine t_takeE 10 (bA 13 1838) rfl rfl rfl rfl h (hS.sub (.cons mr (.zz (.zz (.zz .ii))))) (f := fun v => v) (r_slice h U33 ti93 rfl rfl ((hr_1.mono ln_1).rd lo_2 (le_2.trans (le_3.trans (le_4.trans le_6)))) rfl rfl et_6) fun v_5 hr_5 a h => ?_
   obtain ⟨t_7, et_7, H⟩ := bs H
   obtain ⟨t_8, et_8, H⟩ := bs H
   obtain ⟨t_9, et_9, H⟩ := bs H
   refine h_state fun GD_1 hGD_1 => ?_
   have hD_1 : ∀ (a : Act) (w_10 : World), (∃ (v_6 : Value) (N_10 : Mem) (M_4 : Mem), Fr 52 a [(8, v_6)] ∧ Sep w0 w_10 [N_10, Mem.no, Mem.no, Mem.no, bx g_2 93 [iV x1, iV x2, iV t_3.Err, v_2, iV t_3.N], M_4] Z ∧ N_9.le N_10 ∧ Own k_api_Last 93 M_4 N_10 v_6 t_9 ∧ Rd Kd.u8 N_10 v_2 t_3.Val) → GD_1 0 (bA 13 8191) a w_10 := by
    rintro a w_10 ⟨v_6, N_10, M_4, h, hS, le_7, ho_2, hr_6⟩
    refine (hGD_1 _ _ _ _).2 <| h_done (by kernel_rfl) <| x_then_n (hKJ_3 _ _ ?_)
    refine wp_ret ?_
    obtain rfl := Option.some.inj H
    exact r1 h 8 rfl rfl ⟨_, rfl, v_6, N_10, M_4, rfl, (hS.sel [0, 5] (by decide)), (ho_2.mono mr)⟩
   have hD_2 : ∀ (a : Act) (w_11 : World), (∃ (v_7 : Value) (N_11 : Mem) (M_5 : Mem), Fr 52 a [(8, nS), (47, v_7), (50, v_5)] ∧ Sep w0 w_11 [N_11, Mem.no, Mem.no, Mem.no, bx g_2 93 [iV x1, iV x2, iV t_3.Err, v_2, iV t_3.N], M_5] Z ∧ N_9.le N_11 ∧ Own k_api_Last 93 M_5 N_11 v_7 t_8 ∧ Rd Kd.u8 N_11 v_2 t_3.Val) → GD_1 2 (bA 13 2047) a w_11 := by
    rintro a w_11 ⟨v_7, N_11, M_5, h, hS, le_8, ho_3, hr_7⟩
    refine (hGD_1 _ _ _ _).2 <| h_events [11] (by kernel_rfl) (by simp) ?_
    intro i hi; simp only [List.mem_cons, List.not_mem_nil, or_false] at hi; rcases hi with rfl
    refine ⟨_, (bA 13 4095), rfl, by kernel_rfl, ?_⟩
    refine s_append (J := N_9) (I' := N_11) (p := 5) 2513169434916 h rfl rfl rfl U33 ti93 rfl rfl rfl rfl hS rfl ho_3 (hr_5.src (le_8.trans (hS.own 0))) mr le_8 et_9 fun w_12 v_8 M_6 hS' ho_4 a h => ?_
    replace hS : Sep w0 w_12 [_, _, _, _, _, M_6] Z := hS'
    refine ne (hS.sub (.cons le_8 (.zz (.zz (.zz (.rr .nn)))))) fun hs => ?_
    refine t_take 12 (bA 13 8191) rfl rfl rfl rfl h hs (v := v_8) (fun w hS => r_assign h rfl) fun a h=>?_
    exact (hGD_1 _ _ _ _).1 (hD_1 _ _ ⟨v_8, N_11, M_6, (h.to rfl), (hS.sel [0, 1000, 1001, 1002, 4, 5] (by decide)), le_8, (ho_4.mono mr), hr_7⟩)
   have hD_3 : ∀ (a : Act) (w_13 : World), (∃ (v_9 : Value) (v_10 : Value) (N_12 : Mem) (M_7 : Mem) (M_8 : Mem), Fr 52 a [(8, nS), (44, v_9), (46, v_10), (50, v_5)] ∧ Sep w0 w_13 [N_12, Mem.no, Mem.no, Mem.no, bx g_2 93 [iV x1, iV x2, iV t_3.Err, v_2, iV t_3.N], M_7, M_8] Z ∧ N_9.le N_12 ∧ Own k_api_Last 93 M_7 N_12 v_9 t_7 ∧ Own k_api_Last 93 M_8 N_12 v_10 ([(⟨x1, x2, t_3⟩ : api_Last)] : List api_Last) ∧ Rd Kd.u8 N_12 v_2 t_3.Val) → GD_1 3 (bA 13 1919) a w_13 := by
    rintro a w_13 ⟨v_9, v_10, N_12, M_7, M_8, h, hS, le_9, ho_5, ho_6, hr_8⟩
    refine (hGD_1 _ _ _ _).2 <| h_events [7] (by kernel_rfl) (by simp) ?_
    intro i hi; simp only [List.mem_cons, List.not_mem_nil, or_false] at hi; rcases hi with rfl
    refine ⟨_, (bA 13 2047), rfl, by kernel_rfl, ?_⟩
    refine s_append (J := N_12) (I' := N_12) (p := 5) 2513169434916 h rfl rfl rfl U33 ti93 rfl rfl rfl rfl hS rfl ho_5 (ho_6.src (hS.own 6)) mr mr et_8 fun w_14 v_11 M_9 hS' ho_7 a h => ?_
    replace hS : Sep w0 w_14 [_, _, _, _, _, M_9, _] Z := hS'
    refine ne (hS.sub (.cons le_9 (.zz (.zz (.zz (.rr .nn)))))) fun hs => ?_
    exact (hGD_1 _ _ _ _).1 (hD_2 _ _ ⟨v_11, N_12, M_9, (h.to rfl), (hS.sel [0, 1000, 1001, 1002, 4, 5] (by decide)), le_9, (ho_7.mono mr), hr_8⟩)
   have hD_4 : ∀ (a : Act) (w_15 : World), (∃ (v_12 : Value) (N_13 : Mem) (M_10 : Mem), Fr 52 a [(8, nS), (44, v_12), (45, .agg ([iV x1, iV x2, iV t_3.Err, v_2, iV t_3.N] : List Value).toArray), (50, v_5)] ∧ Sep w0 w_15 [N_13, Mem.no, Mem.no, M_2, bx g_2 93 [iV x1, iV x2, iV t_3.Err, v_2, iV t_3.N], M_10] Z ∧ N_9.le N_13 ∧ Own k_api_Last 93 M_10 N_13 v_12 t_7) → GD_1 4 (bA 13 1855) a w_15 := by
    rintro a w_15 ⟨v_12, N_13, M_10, h, hS, le_10, ho_8⟩
    refine (hGD_1 _ _ _ _).2 <| h_events [6] (by kernel_rfl) (by simp) ?_
    intro i hi; simp only [List.mem_cons, List.not_mem_nil, or_false] at hi; rcases hi with rfl
    refine ⟨_, (bA 13 1919), rfl, by kernel_rfl, ?_⟩
    obtain ⟨N_14, hS', le_11, lo_3⟩ := hS.freeze 2 rfl
    replace hS : Sep w0 w_15 [N_14, _, _, Mem.no, _, _] Z := hS'
    have hq_1 : Reps k_api_Last N_14 ([(⟨x1, x2, t_3⟩ : api_Last)] : List api_Last) _ := ((Reps.one (d := k_api_Last) (x := (⟨x1, x2, t_3⟩ : api_Last)) (k_api_Last.mk' (hr_2.rd lo_3 (Mem.no_le _)))).append (Reps.nil k_api_Last _))
    refine s_buildSlice h rfl U33 ti93 rfl rfl rfl (.cons rfl .nil) rfl rfl rfl hS hq_1 rfl fun w_16 v_13 M_11 hS' ho_9 a h => ?_
    replace hS : Sep w0 w_16 [_, _, _, _, _, _, M_11] Z := hS'
    refine ne (hS.sub (.cons (le_10.trans le_11) (.zz (.zz (.zz (.rr .nn)))))) fun hs => ?_
    exact (hGD_1 _ _ _ _).1 (hD_3 _ _ ⟨v_12, v_13, N_14, M_10, M_11, (h.to rfl), (hS.sel [0, 1000, 1001, 1002, 4, 5, 6] (by decide)), (le_10.trans le_11), (ho_8.mono le_11), (ho_9.mono mr), (hr_2.rd lo_3 (Mem.no_le _))⟩)
   have hD_5 : ∀ (a : Act) (w_17 : World), (∃ (v_14 : Value) (v_15 : Value) (N_15 : Mem) (M_12 : Mem) (M_13 : Mem), Fr 52 a [(8, nS), (40, v_14), (43, v_4), (46, v_15), (50, v_5)] ∧ Sep w0 w_17 [N_15, Mem.no, Mem.no, Mem.no, bx g_2 93 [iV x1, iV x2, iV t_3.Err, v_2, iV t_3.N], M_12, M_13] Z ∧ N_9.le N_15 ∧ Own k_api_Last 93 M_12 N_15 v_14 ([] : List api_Last) ∧ Own k_api_Last 93 M_13 N_15 v_15 ([(⟨x1, x2, t_3⟩ : api_Last)] : List api_Last) ∧ Rd Kd.u8 N_15 v_2 t_3.Val) → GD_1 4 (bA 13 1903) a w_17 := by
    rintro a w_17 ⟨v_14, v_15, N_15, M_12, M_13, h, hS, le_12, ho_10, ho_11, hr_9⟩
    refine (hGD_1 _ _ _ _).2 <| h_events [4] (by kernel_rfl) (by simp) ?_
    intro i hi; simp only [List.mem_cons, List.not_mem_nil, or_false] at hi; rcases hi with rfl
    refine ⟨_, (bA 13 1919), rfl, by kernel_rfl, ?_⟩
    refine s_append (J := N_9) (I' := N_15) (p := 5) 2513169434916 h rfl rfl rfl U33 ti93 rfl rfl rfl rfl hS rfl ho_10 (hr_4.src (le_12.trans (hS.own 0))) mr le_12 et_7 fun w_18 v_16 M_14 hS' ho_12 a h => ?_
    replace hS : Sep w0 w_18 [_, _, _, _, _, M_14, _] Z := hS'
    refine ne (hS.sub (.cons le_12 (.zz (.zz (.zz (.rr .nn)))))) fun hs => ?_
    exact (hGD_1 _ _ _ _).1 (hD_3 _ _ ⟨v_16, v_15, N_15, M_14, M_13, (h.to rfl), (hS.sel [0, 1000, 1001, 1002, 4, 5, 6] (by decide)), le_12, (ho_12.mono mr), (ho_11.mono mr), hr_9⟩)
   have hD_6 : ∀ (a : Act) (w_19 : World), (∃ (v_17 : Value) (N_16 : Mem) (M_15 : Mem), Fr 52 a [(8, nS), (40, v_17), (43, v_4), (45, .agg ([iV x1, iV x2, iV t_3.Err, v_2, iV t_3.N] : List Value).toArray), (50, v_5)] ∧ Sep w0 w_19 [N_16, Mem.no, Mem.no, M_2, bx g_2 93 [iV x1, iV x2, iV t_3.Err, v_2, iV t_3.N], M_15] Z ∧ N_9.le N_16 ∧ Own k_api_Last 93 M_15 N_16 v_17 ([] : List api_Last)) → GD_1 5 (bA 13 1839) a w_19 := by
    rintro a w_19 ⟨v_17, N_16, M_15, h, hS, le_13, ho_13⟩
    refine (hGD_1 _ _ _ _).2 <| h_evs [4, 6] (by kernel_rfl) ⟨⟨_, (bA 13 1855), rfl, by kernel_rfl, ?_⟩, ⟨_, (bA 13 1903), rfl, by kernel_rfl, ?_⟩, trivial⟩
    ·refine s_append (J := N_9) (I' := N_16) (p := 5) 2513169434916 h rfl rfl rfl U33 ti93 rfl rfl rfl rfl hS rfl ho_13 (hr_4.src (le_13.trans (hS.own 0))) mr le_13 et_7 fun w_20 v_18 M_16 hS' ho_14 a h => ?_
     replace hS : Sep w0 w_20 [_, _, _, _, _, M_16] Z := hS'
     refine ne (hS.sub (.cons le_13 (.zz (.zz (.zz (.rr .nn)))))) fun hs => ?_
     exact (hGD_1 _ _ _ _).1 (hD_4 _ _ ⟨v_18, N_16, M_16, (h.to rfl), (hS.sel [0, 1000, 1001, 3, 4, 5] (by decide)), le_13, (ho_14.mono mr)⟩)
    ·obtain ⟨N_17, hS', le_14, lo_4⟩ := hS.freeze 2 rfl
     replace hS : Sep w0 w_19 [N_17, _, _, Mem.no, _, _] Z := hS'
     have hq_2 : Reps k_api_Last N_17 ([(⟨x1, x2, t_3⟩ : api_Last)] : List api_Last) _ := ((Reps.one (d := k_api_Last) (x := (⟨x1, x2, t_3⟩ : api_Last)) (k_api_Last.mk' (hr_2.rd lo_4 (Mem.no_le _)))).append (Reps.nil k_api_Last _))
     refine s_buildSlice h rfl U33 ti93 rfl rfl rfl (.cons rfl .nil) rfl rfl rfl hS hq_2 rfl fun w_21 v_19 M_17 hS' ho_15 a h => ?_
     replace hS : Sep w0 w_21 [_, _, _, _, _, _, M_17] Z := hS'
     refine ne (hS.sub (.cons (le_13.trans le_14) (.zz (.zz (.zz (.rr .nn)))))) fun hs => ?_
     exact (hGD_1 _ _ _ _).1 (hD_5 _ _ ⟨v_17, v_19, N_17, M_15, M_17, (h.to rfl), (hS.sel [0, 1000, 1001, 1002, 4, 5, 6] (by decide)), (le_13.trans le_14), (ho_13.mono le_14), (ho_15.mono mr), (hr_2.rd lo_4 (Mem.no_le _))⟩)
   have hD_7 : ∀ (a : Act) (w_22 : World), (∃ (v_20 : Value) (N_18 : Mem) (M_18 : Mem), Fr 52 a [(8, nS), (43, v_4), (46, v_20), (50, v_5)] ∧ Sep w0 w_22 [N_18, Mem.no, Mem.no, Mem.no, bx g_2 93 [iV x1, iV x2, iV t_3.Err, v_2, iV t_3.N], M_18] Z ∧ N_9.le N_18 ∧ Own k_api_Last 93 M_18 N_18 v_20 ([(⟨x1, x2, t_3⟩ : api_Last)] : List api_Last) ∧ Rd Kd.u8 N_18 v_2 t_3.Val) → GD_1 5 (bA 13 1902) a w_22 := by
    rintro a w_22 ⟨v_20, N_18, M_18, h, hS, le_15, ho_16, hr_10⟩
    refine (hGD_1 _ _ _ _).2 <| h_events [0] (by kernel_rfl) (by simp) ?_
    intro i hi; simp only [List.mem_cons, List.not_mem_nil, or_false] at hi; rcases hi with rfl
    refine ⟨_, (bA 13 1903), rfl, by kernel_rfl, ?_⟩
    have hq_3 : Reps k_api_Last N_18 ([] : List api_Last) _ := (Reps.nil k_api_Last _)
    refine s_buildSlice h rfl U33 ti93 rfl rfl rfl .nil rfl rfl rfl hS hq_3 rfl fun w_23 v_21 M_19 hS' ho_17 a h => ?_
    replace hS : Sep w0 w_23 [_, _, _, _, _, _, M_19] Z := hS'
    refine ne (hS.sub (.cons le_15 (.zz (.zz (.zz (.rr .nn)))))) fun hs => ?_
    exact (hGD_1 _ _ _ _).1 (hD_5 _ _ ⟨v_21, v_20, N_18, M_19, M_18, (h.to rfl), (hS.sel [0, 1000, 1001, 1002, 4, 6, 5] (by decide)), le_15, (ho_17.mono mr), (ho_16.mono mr), hr_10⟩)
   refine (hGD_1 _ _ _ _).2 <| h_evs [0, 6] (by kernel_rfl) ⟨⟨_, (bA 13 1839), rfl, by kernel_rfl, ?_⟩, ⟨_, (bA 13 1902), rfl, by kernel_rfl, ?_⟩, trivial⟩
   ·have hq_4 : Reps k_api_Last N_9 ([] : List api_Last) _ := (Reps.nil k_api_Last _)
    refine s_buildSlice h rfl U33 ti93 rfl rfl rfl .nil rfl rfl rfl hS hq_4 rfl fun w_24 v_22 M_20 hS' ho_18 a h => ?_
    replace hS : Sep w0 w_24 [_, _, _, _, _, M_20] Z := hS'
    refine ne (hS.sub (.cons mr (.zz (.zz (.zz (.rr .nn)))))) fun hs => ?_
    exact (hGD_1 _ _ _ _).1 (hD_6 _ _ ⟨v_22, N_9, M_20, (h.to rfl), (hS.sel [0, 1000, 1001, 3, 4, 5] (by decide)), mr, (ho_18.mono mr)⟩)
   ·obtain ⟨N_19, hS', le_16, lo_5⟩ := hS.freeze 2 rfl
    replace hS : Sep w0 w_9 [N_19, _, _, Mem.no, _] Z := hS'
    have hq_5 : Reps k_api_Last N_19 ([(⟨x1, x2, t_3⟩ : api_Last)] : List api_Last) _ := ((Reps.one (d := k_api_Last) (x := (⟨x1, x2, t_3⟩ : api_Last)) (k_api_Last.mk' (hr_2.rd lo_5 (Mem.no_le _)))).append (Reps.nil k_api_Last _))
    refine s_buildSlice h rfl U33 ti93 rfl rfl rfl (.cons rfl .nil) rfl rfl rfl hS hq_5 rfl fun w_25 v_23 M_21 hS' ho_19 a h => ?_
    replace hS : Sep w0 w_25 [_, _, _, _, _, M_21] Z := hS'
    refine ne (hS.sub (.cons le_16 (.zz (.zz (.zz (.rr .nn)))))) fun hs => ?_
    exact (hGD_1 _ _ _ _).1 (hD_7 _ _ ⟨v_23, N_19, M_21, (h.to rfl), (hS.sel [0, 1000, 1001, 1002, 4, 5] (by decide)), le_16, (ho_19.mono mr), (hr_2.rd lo_5 (Mem.no_le _))⟩)
 clear hKJ_2
 refine wp_region_lit <| mv h rfl fun a h=>mv h rfl fun a h=>s_lenO h rfl U33 rfl (hr_1.mono ln_1) fun a h=>s_cmp (b := decide (t_2 < (t_1.length : Int))) h rfl rfl rfl (.inr (.inr (.inl ⟨rfl, rfl⟩))) fun a h=>mv h rfl fun a h=>?_
 obtain ⟨hc_2, H⟩ | ⟨hc_2, H⟩ := ii H
 ·refine s_on h rfl rfl (dt hc_2) <| mv h rfl fun a h=>s_on h rfl rfl (dt hc_2) <| mv h rfl fun a h=>s_on h rfl rfl (dt hc_2) ?_
  obtain ⟨t_10, et_10, H⟩ := bs H
  refine v_indexO h rfl U33 ti93 rfl rfl rfl (hr_1.mono ln_1) (hS.own 2) et_10 fun ad_1 cs_1 hk_1 hc_3 => ?_
  obtain ⟨v_24, rfl, hr_11⟩ := k_api_Last.open' hk_1
  intro a h
  refine s_on h rfl rfl (dt hc_2) <| s_fieldAddr h rfl U93 rfl ti3 rfl rfl fun a h=>s_on h rfl rfl (dt hc_2) <| s_load h rfl rfl (el_one (o := 0) hc_3 U3 rfl rfl) fun a h=>s_on h rfl rfl (dt hc_2) <| mv h rfl fun a h=>s_on h rfl rfl (dt hc_2) <| s_cmp (b := (t_10.Sess == x1)) h rfl rfl rfl (.inl ⟨rfl, rfl⟩) fun a h=>pt h rfl (dt hc_2) fun a h=>wpList_nil ?_
  exact x_then_n (hJ_j_1 (t_10.Sess == x1) H _ _ ⟨N_6, (h.to rfl), (hS.sel [0, 1000, 2, 3, 4] (by decide)), mr⟩)
 ·refine of h rfl rfl (df hc_2) fun a h=>of h rfl rfl (df hc_2) fun a h=>of h rfl rfl (df hc_2) fun a h=>of h rfl rfl (df hc_2) fun a h=>of h rfl rfl (df hc_2) fun a h=>of h rfl rfl (df hc_2) fun a h=>of h rfl rfl (df hc_2) fun a h=>pf h rfl (df hc_2) fun a h=>wpList_nil ?_
  exact x_then_n (hJ_j_1 false H _ _ ⟨N_6, (h.to rfl), (hS.sel [0, 1000, 2, 3, 4] (by decide)), mr⟩)

set_option maxHeartbeats 4000000 in
set_option maxRecDepth 20000 in
theorem hocketref4_Step.calls (K : Nat) (x0 : api_Machine) (p0_0 : Value) (p0_1 : Value) (p0_2 : Value) (p0_3 : Value) (p0_4 : Value) (x1 : api_Entry) (p1_5 : Value) (p1_6 : Value) (p1_7 : Value) (r : api_Machine × api_Result) (w0 w : World) (Z A : Mem) (hA : A.le Z) (hS : Sep w0 w [] Z) (hp0_0 : Rd Kd.u8 A p0_0 x0.Objects.Reg) (hp0_1 : Rd (Kd.slice Kd.u8) A p0_1 x0.Objects.Queue) (hp0_2 : Rd (Kd.int .i64) A p0_2 x0.Objects.Lock) (hp0_3 : Rd k_api_Pair A p0_3 x0.Objects.Map) (hp0_4 : Rd k_api_Last A p0_4 x0.Table) (hp1_5 : Rd Kd.u8 A p1_5 x1.Cmd.Key) (hp1_6 : Rd Kd.u8 A p1_6 x1.Cmd.Val) (hp1_7 : Rd Kd.u8 A p1_7 x1.Cmd.Old)
    (H : hocketref4_Step.f K x0 x1 = some r) :
    Calls Try.prog 61 [.agg ([p0_0, p0_1, p0_2, p0_3, p0_4] : List Value).toArray, .agg (E26 x1 p1_5 p1_6 p1_7).toArray].toArray w (Ret fun v w' => ∃ (u0 : Value) (u1 : Value) (u2 : Value) (u3 : Value) (u4 : Value) (u5 : Value) (N : Mem) (M0 : Mem) (M1 : Mem) (M2 : Mem) (M3 : Mem) (M4 : Mem), v = .tuple [.agg [u0, u1, u2, u3, u4].toArray, .agg (E91 r.2 u5).toArray].toArray ∧ Sep w0 w' [N, M0, M1, M2, M3, M4] Z ∧ Own Kd.u8 5 M0 Mem.no u0 r.1.Objects.Reg ∧ Own (Kd.slice Kd.u8) 22 M1 N u1 r.1.Objects.Queue ∧ Own (Kd.int .i64) 3 M2 Mem.no u2 r.1.Objects.Lock ∧ Own k_api_Pair 88 M3 N u3 r.1.Objects.Map ∧ Own k_api_Last 93 M4 N u4 r.1.Table ∧ Rd Kd.u8 N u5 r.2.Val) := by
 unfold hocketref4_Step.f at H
 refine f_enter _ Try.func61 rfl Try.ntmps61 rfl fun a h=>?_
 replace h : Fr 55 a [(0, .agg ([p0_0, p0_1, p0_2, p0_3, p0_4] : List Value).toArray), (1, .agg (E26 x1 p1_5 p1_6 p1_7).toArray)] := h
 replace hS := hS.start
 refine qr <| v_box (vs := [p0_0, p0_1, p0_2, p0_3, p0_4]) h rfl rfl rfl hS fun w_1 g_1 hS' a h => ?_
 replace hS : Sep w0 w_1 [_, bx g_1 35 [p0_0, p0_1, p0_2, p0_3, p0_4]] Z := hS'
 refine v_box (vs := (E26 x1 p1_5 p1_6 p1_7)) h rfl rfl rfl hS fun w_2 g_2 hS' a h => ?_
 replace hS : Sep w0 w_2 [_, _, bx g_2 26 (E26 x1 p1_5 p1_6 p1_7)] Z := hS'
 refine v_alloc h rfl ti35 hS fun w_3 g_3 hS' a h => ?_
 replace hS : Sep w0 w_3 [_, _, _, bx g_3 35 [nS, nS, nS, nS, nS]] Z := hS'
 refine v_alloc h rfl ti91 hS fun w_4 g_4 hS' a h => ?_
 replace hS : Sep w0 w_4 [_, _, _, _, bx g_4 91 [iV 0, nS, iV 0]] Z := hS'
 refine nx <| qr <| s_fieldAddr h rfl U35 rfl ti33 rfl rfl fun a h=>s_load h rfl rfl (hS.load_one (p := 1) rfl U33 rfl rfl) fun a h=>s_fieldAddr h rfl U26 rfl ti3 rfl rfl fun a h=>s_load h rfl rfl (hS.load_one (p := 2) rfl U3 rfl rfl) fun a h=>s_fieldAddr h rfl U26 rfl ti3 rfl rfl fun a h=>s_load h rfl rfl (hS.load_one (p := 2) rfl U3 rfl rfl) fun a h=>?_
 obtain ⟨t_1, et_1, H⟩ := bs H
 refine s_call h rfl Try.call79 rfl (hocketref4_Look.calls K x0.Table _ x1.Sess x1.Seq t_1 w0 _ _ _ mr (hS.enter [] (by decide)) (hp0_4.mono (hA.trans (hS.le_zed []))) et_1) ?_
 rintro _ w_5 ⟨v_1, N_1, M_1, rfl, hS', hr_1⟩
 intro a h
 obtain ⟨N_2, hS'', le_1, ln_1⟩ := hS.call [] (by decide) rfl (l' := []) (ow := [_]) rfl hS'
 replace hS : Sep w0 w_5 [N_2, _, _, _, _, _] Z := hS''
 refine mv h rfl fun a h=>s_extract h rfl rfl rfl fun a h=>s_extract h rfl rfl rfl fun a h=>v_alloc h rfl ti91 hS fun w_6 g_5 hS' a h => ?_
 replace hS : Sep w0 w_6 [_, _, _, _, _, _, bx g_5 91 [iV 0, nS, iV 0]] Z := hS'
 refine sto 6 h rfl rfl hS rfl ti91 rfl rfl rfl (oa 1 rfl (oc hr_1.one (oz rfl))) fun w_7 hS' => ?_
 replace hS : Sep w0 w_7 [_, _, _, _, _, _, bx g_5 91 (E91 t_1.1 v_1)] Z := hS'
 refine sg h rfl fun a h=>nx <| c_seq fun KJ_1 hKJ_1 => qr <| mv h rfl fun a h=>s_cmp (b := (t_1.2 != 0)) h rfl rfl rfl (.inr (.inl ⟨rfl, rfl⟩)) fun a h=>wpList_nil <| x_then_n ?_
 obtain ⟨hc_1, H⟩ | ⟨hc_1, H⟩ := ii H
 ·refine c_cond_f h rfl (xf hc_1) <| wp_skip <| x_then_n (hKJ_1 _ _ ?_)
  refine qr <| s_fieldAddr h rfl U35 rfl ti32 rfl rfl fun a h=>s_load h rfl rfl (hS.load_agg (p := 1) (us := [p0_0, p0_1, p0_2, p0_3]) rfl U32 rfl ti32 rfl rfl) fun a h=>s_fieldAddr h rfl U26 rfl ti24 rfl rfl fun a h=>s_load h rfl rfl (hS.load_agg (p := 2) (us := (E24 x1.Cmd p1_5 p1_6 p1_7)) rfl U24 rfl ti24 rfl rfl) fun a h=>?_
  obtain ⟨t_2, et_2, H⟩ := bs H
  refine s_call h rfl Try.call80 rfl (hocketref4_Apply.calls K x0.Objects _ _ _ _ x1.Cmd _ _ _ t_2 w0 _ _ _ mr (hS.enter [] (by decide)) (hp0_0.mono (hA.trans (hS.le_zed []))) (hp0_1.mono (hA.trans (hS.le_zed []))) (hp0_2.mono (hA.trans (hS.le_zed []))) (hp0_3.mono (hA.trans (hS.le_zed []))) (hp1_5.mono (hA.trans (hS.le_zed []))) (hp1_6.mono (hA.trans (hS.le_zed []))) (hp1_7.mono (hA.trans (hS.le_zed []))) et_2) ?_
  rintro _ w_8 ⟨v_2, v_3, v_4, v_5, v_6, N_3, M_2, M_3, M_4, M_5, rfl, hS', hr_2, hr_3, hr_4, hr_5, hr_6⟩
  intro a h
  obtain ⟨N_4, hS'', le_2, ln_2⟩ := hS.call [] (by decide) rfl (l' := []) (ow := [_, _, _, _]) rfl hS'
  replace hS : Sep w0 w_8 [N_4, _, _, _, _, _, _, _, _, _, _] Z := hS''
  refine mv h rfl fun a h=>s_extract h rfl rfl rfl fun a h=>s_extract h rfl rfl rfl fun a h=>v_alloc h rfl ti32 hS fun w_9 g_6 hS' a h => ?_
  replace hS : Sep w0 w_9 [_, _, _, _, _, _, _, _, _, _, _, bx g_6 32 [nS, nS, nS, nS]] Z := hS'
  refine sto 11 h rfl rfl hS rfl ti32 rfl rfl rfl (oc hr_2.one (oc (hr_3.mono ln_2).one (oc hr_4.one (oc (hr_5.mono ln_2).one on0)))) fun w_10 hS' => ?_
  replace hS : Sep w0 w_10 [_, _, _, _, _, _, _, _, _, _, _, bx g_6 32 [v_2, v_3, v_4, v_5]] Z := hS'
  refine sto 6 h rfl rfl hS rfl ti91 rfl rfl rfl (oa 1 rfl (oc (hr_6.mono ln_2).one (oz rfl))) fun w_11 hS' => ?_
  replace hS : Sep w0 w_11 [_, _, _, _, _, _, bx g_5 91 (E91 t_2.2 v_6), _, _, _, _, _] Z := hS'
  refine wpList_nil ?_
  replace h : Fr 55 a [(2, .pointer (some ⟨g_1, 0, none⟩)), (3, .pointer (some ⟨g_2, 0, none⟩)), (4, .pointer (some ⟨g_3, 0, none⟩)), (5, .pointer (some ⟨g_4, 0, none⟩)), (6, .pointer (some ⟨g_5, 0, none⟩)), (10, .pointer (some ⟨g_6, 0, none⟩))] := h.keep [2, 3, 4, 5, 6, 10]
  refine x_then_n <| c_seq fun KJ_2 hKJ_2 => h_begin (S := fun w => Sep w0 w [N_4, bx g_1 35 [p0_0, p0_1, p0_2, p0_3, p0_4], bx g_2 26 (E26 x1 p1_5 p1_6 p1_7), Mem.no, Mem.no, M_1, bx g_5 91 (E91 t_2.2 v_6), M_2, M_3, M_4, M_5, bx g_6 32 [v_2, v_3, v_4, v_5]] Z) 13 (by kernel_rfl) rfl (bA 13 0) (by kernel_rfl) hS fun w_12 hS => ?_
  refine t_take 0 (bA 13 1) rfl rfl rfl rfl h (hS.sub (.cons mr (.rr (.rr (.zz (.zz .ii)))))) (v := .agg ([v_2, v_3, v_4, v_5] : List Value).toArray) (fun w hS => r_load h rfl (hS.load_agg (p := 11) (us := [v_2, v_3, v_4, v_5]) rfl U32 rfl ti32 rfl rfl)) fun a h=>t_take 1 (bA 13 3) rfl rfl rfl rfl h (hS.sub (.cons mr (.rr (.rr (.zz (.zz .ii)))))) (v := .pointer (some ⟨g_1, 4, none⟩)) (fun w hS => r_fieldAddr h U35 rfl ti33 rfl rfl rfl) fun a h=>t_take 2 (bA 13 7) rfl rfl rfl rfl h (hS.sub (.cons mr (.rr (.rr (.zz (.zz .ii)))))) (v := p0_4) (fun w hS => r_load h rfl (hS.load_one (p := 1) rfl U33 rfl rfl)) fun a h=>t_take 3 (bA 13 15) rfl rfl rfl rfl h (hS.sub (.cons mr (.rr (.rr (.zz (.zz .ii)))))) (v := .pointer (some ⟨g_2, 0, none⟩)) (fun w hS => r_fieldAddr h U26 rfl ti3 rfl rfl rfl) fun a h=>t_take 4 (bA 13 31) rfl rfl rfl rfl h (hS.sub (.cons mr (.rr (.rr (.zz (.zz .ii)))))) (v := iV x1.Sess) (fun w hS => r_load h rfl (hS.load_one (p := 2) rfl U3 rfl rfl)) fun a h=>t_take 5 (bA 13 63) rfl rfl rfl rfl h (hS.sub (.cons mr (.rr (.rr (.zz (.zz .ii)))))) (v := .pointer (some ⟨g_2, 1, none⟩)) (fun w hS => r_fieldAddr h U26 rfl ti3 rfl rfl rfl) fun a h=>?_
  refine t_take 6 (bA 13 127) rfl rfl rfl rfl h (hS.sub (.cons mr (.rr (.rr (.zz (.zz .ii)))))) (v := iV x1.Seq) (fun w hS => r_load h rfl (hS.load_one (p := 2) rfl U3 rfl rfl)) fun a h=>t_take 7 (bA 13 255) rfl rfl rfl rfl h (hS.sub (.cons mr (.rr (.rr (.zz (.zz .ii)))))) (v := .agg (E91 t_2.2 v_6).toArray) (fun w hS => r_load h rfl (hS.load_agg (p := 6) (us := (E91 t_2.2 v_6)) rfl U91 rfl ti91 rfl rfl)) fun a h=>t_take 10 (bA 13 1279) rfl rfl rfl rfl h (hS.sub (.cons mr (.rr (.rr (.zz (.zz .ii)))))) (v := .agg (E91 t_2.2 v_6).toArray) (fun w hS => r_load h rfl (hS.load_agg (p := 6) (us := (E91 t_2.2 v_6)) rfl U91 rfl ti91 rfl rfl)) fun a h=>h_event 8 (bA 13 1535) rfl (by kernel_rfl) (by kernel_rfl) ?_
  obtain ⟨t_3, et_3, H⟩ := bs H
  refine s_call h rfl Try.call82 rfl (hocketref4_PutLast.calls K x0.Table _ x1.Sess x1.Seq t_2.2 _ t_3 w0 _ _ _ mr (hS.enter [] (by decide)) (hp0_4.mono (hA.trans (hS.le_zed []))) ((hr_6.mono ln_2).mono (mr.trans (hS.new_zed []))) et_3) ?_
  rintro v_7 w_13 ⟨_, N_5, M_6, rfl, hS', hr_7⟩
  intro a h
  obtain ⟨N_6, hS'', le_3, ln_3⟩ := hS.call [] (by decide) rfl (l' := []) (ow := [_]) rfl hS'
  replace hS : Sep w0 w_13 [N_6, _, _, _, _, _, _, _, _, _, _, _, _] Z := hS''
  refine ne (hS.sub (.cons le_3 (.rr (.rr (.zz (.zz (.rr (.rr (.rr (.rr (.rr (.rr (.rr .nn))))))))))))) fun hs => ?_
  refine t_take 9 (bA 13 2047) rfl rfl rfl rfl h hs (v := .agg ([v_2, v_3, v_4, v_5, v_7] : List Value).toArray) (fun w hS => r_build h ti35 pl35 rfl (.cons rfl (.cons (hr_7.mono ln_3).cells .nil)) (cs := [v_2, v_3, v_4, v_5, v_7]) (by kernel_rfl)) fun a h=>h_event 11 (bA 13 4095) rfl (by kernel_rfl) (by kernel_rfl) ?_
  refine sto 3 h rfl rfl hS rfl ti35 rfl rfl rfl (oc hr_2.one (oc (hr_3.mono ln_2).one (oc hr_4.one (oc (hr_5.mono ln_2).one (oc (hr_7.mono ln_3).one on0))))) fun w_14 hS' => ?_
  replace hS : Sep w0 w_14 [_, _, _, bx g_3 35 [v_2, v_3, v_4, v_5, v_7], _, _, _, _, _, _, _, _, _] Z := hS'
  refine ne (hS.sub (.cons le_3 (.rr (.rr (.zz (.zz (.rr (.rr (.rr (.rr (.rr (.rr (.rr .nn))))))))))))) fun hs => ?_
  refine h_event 12 (bA 13 8191) rfl (by kernel_rfl) (by kernel_rfl) ?_
  refine sto 4 h rfl rfl hS rfl ti91 rfl rfl rfl (oa 1 rfl (oc (hr_6.mono ln_2).one (oz rfl))) fun w_15 hS' => ?_
  replace hS : Sep w0 w_15 [_, _, _, _, bx g_4 91 (E91 t_2.2 v_6), _, _, _, _, _, _, _, _] Z := hS'
  refine ne (hS.sub (.cons le_3 (.rr (.rr (.zz (.zz (.rr (.rr (.rr (.rr (.rr (.rr (.rr .nn))))))))))))) fun hs => ?_
  refine h_done (by kernel_rfl) <| x_then_n (hKJ_2 _ _ ?_)
  refine wp_ret ?_
  obtain rfl := Option.some.inj H
  exact f_ret h (rs := [.cell 4 35, .cell 5 91]) rfl (.cell rfl (hS.load_agg (p := 3) (us := [v_2, v_3, v_4, v_5, v_7]) rfl U35 rfl ti35 rfl rfl) (.cell rfl (hS.load_agg (p := 4) (us := (E91 t_2.2 v_6)) rfl U91 rfl ti91 rfl rfl) .nil)) ⟨_, rfl, v_2, v_3, v_4, v_5, v_7, v_6, N_6, M_2, M_3, M_4, M_5, M_6, rfl, (hS.sel [0, 7, 8, 9, 10, 12] (by decide)), hr_2, ((hr_3.mono ln_2).mono le_3), hr_4, ((hr_5.mono ln_2).mono le_3), ((hr_7.mono ln_3).mono mr), ((hr_6.mono ln_2).mono le_3)⟩
 ·refine c_cond_t h rfl (xt hc_1) <| qr <| s_fieldAddr h rfl U35 rfl ti32 rfl rfl fun a h=>s_load h rfl rfl (hS.load_agg (p := 1) (us := [p0_0, p0_1, p0_2, p0_3]) rfl U32 rfl ti32 rfl rfl) fun a h=>s_build h rfl ti24 pl24 rfl .nil (cs := [iV 0, iV 0, nS, nS, nS]) (by kernel_rfl) fun a h=>?_
  obtain ⟨t_4, et_4, H⟩ := bs H
  refine s_call h rfl Try.call80 rfl (hocketref4_Apply.calls K x0.Objects _ _ _ _ (⟨0, 0, ([] : List UInt8), ([] : List UInt8), ([] : List UInt8)⟩ : api_Cmd) _ _ _ t_4 w0 _ _ _ mr (hS.enter [] (by decide)) (hp0_0.mono (hA.trans (hS.le_zed []))) (hp0_1.mono (hA.trans (hS.le_zed []))) (hp0_2.mono (hA.trans (hS.le_zed []))) (hp0_3.mono (hA.trans (hS.le_zed []))) (Rd.nil _ _) (Rd.nil _ _) (Rd.nil _ _) et_4) ?_
  rintro _ w_16 ⟨v_8, v_9, v_10, v_11, v_12, N_7, M_7, M_8, M_9, M_10, rfl, hS', hr_8, hr_9, hr_10, hr_11, hr_12⟩
  intro a h
  obtain ⟨N_8, hS'', le_4, ln_4⟩ := hS.call [] (by decide) rfl (l' := []) (ow := [_, _, _, _]) rfl hS'
  replace hS : Sep w0 w_16 [N_8, _, _, _, _, _, _, _, _, _, _] Z := hS''
  refine mv h rfl fun a h=>s_extract h rfl rfl rfl fun a h=>s_extract h rfl rfl rfl fun a h=>v_alloc h rfl ti32 hS fun w_17 g_7 hS' a h => ?_
  replace hS : Sep w0 w_17 [_, _, _, _, _, _, _, _, _, _, _, bx g_7 32 [nS, nS, nS, nS]] Z := hS'
  refine v_alloc h rfl ti91 hS fun w_18 g_8 hS' a h => ?_
  replace hS : Sep w0 w_18 [_, _, _, _, _, _, _, _, _, _, _, _, bx g_8 91 [iV 0, nS, iV 0]] Z := hS'
  refine sto 11 h rfl rfl hS rfl ti32 rfl rfl rfl (oc hr_8.one (oc (hr_9.mono ln_4).one (oc hr_10.one (oc (hr_11.mono ln_4).one on0)))) fun w_19 hS' => ?_
  replace hS : Sep w0 w_19 [_, _, _, _, _, _, _, _, _, _, _, bx g_7 32 [v_8, v_9, v_10, v_11], _] Z := hS'
  refine sto 12 h rfl rfl hS rfl ti91 rfl rfl rfl (oa 1 rfl (oc (hr_12.mono ln_4).one (oz rfl))) fun w_20 hS' => ?_
  replace hS : Sep w0 w_20 [_, _, _, _, _, _, _, _, _, _, _, _, bx g_8 91 (E91 t_4.2 v_12)] Z := hS'
  refine wpList_nil ?_
  replace h : Fr 55 a [(2, .pointer (some ⟨g_1, 0, none⟩)), (3, .pointer (some ⟨g_2, 0, none⟩)), (4, .pointer (some ⟨g_3, 0, none⟩)), (5, .pointer (some ⟨g_4, 0, none⟩)), (6, .pointer (some ⟨g_5, 0, none⟩)), (8, .pointer (some ⟨g_7, 0, none⟩))] := h.keep [2, 3, 4, 5, 6, 8]
  refine x_then_n <| c_seq fun KJ_3 hKJ_3 => h_begin (S := fun w => Sep w0 w [N_8, bx g_1 35 [p0_0, p0_1, p0_2, p0_3, p0_4], bx g_2 26 (E26 x1 p1_5 p1_6 p1_7), Mem.no, Mem.no, M_1, bx g_5 91 (E91 t_1.1 v_1), M_7, M_8, M_9, M_10, bx g_7 32 [v_8, v_9, v_10, v_11], bx g_8 91 (E91 t_4.2 v_12)] Z) 8 (by kernel_rfl) rfl (bA 8 0) (by kernel_rfl) hS fun w_21 hS => ?_
  refine t_take 0 (bA 8 1) rfl rfl rfl rfl h (hS.sub (.cons mr (.rr (.rr (.zz (.zz .ii)))))) (v := .agg ([v_8, v_9, v_10, v_11] : List Value).toArray) (fun w hS => r_load h rfl (hS.load_agg (p := 11) (us := [v_8, v_9, v_10, v_11]) rfl U32 rfl ti32 rfl rfl)) fun a h=>t_take 1 (bA 8 3) rfl rfl rfl rfl h (hS.sub (.cons mr (.rr (.rr (.zz (.zz .ii)))))) (v := .pointer (some ⟨g_1, 4, none⟩)) (fun w hS => r_fieldAddr h U35 rfl ti33 rfl rfl rfl) fun a h=>t_take 2 (bA 8 7) rfl rfl rfl rfl h (hS.sub (.cons mr (.rr (.rr (.zz (.zz .ii)))))) (v := p0_4) (fun w hS => r_load h rfl (hS.load_one (p := 1) rfl U33 rfl rfl)) fun a h=>t_take 5 (bA 8 39) rfl rfl rfl rfl h (hS.sub (.cons mr (.rr (.rr (.zz (.zz .ii)))))) (v := .agg (E91 t_1.1 v_1).toArray) (fun w hS => r_load h rfl (hS.load_agg (p := 6) (us := (E91 t_1.1 v_1)) rfl U91 rfl ti91 rfl rfl)) fun a h=>h_event 3 (bA 8 47) rfl (by kernel_rfl) (by kernel_rfl) ?_
  obtain ⟨t_5, et_5, H⟩ := bs H
  refine s_call h rfl Try.call81 rfl (hocketref4_table.calls K x0.Table _ t_5 w0 _ _ _ mr (hS.enter [] (by decide)) (hp0_4.mono (hA.trans (hS.le_zed []))) et_5) ?_
  rintro v_13 w_22 ⟨_, N_9, M_11, rfl, hS', hr_13⟩
  intro a h
  obtain ⟨N_10, hS'', le_5, ln_5⟩ := hS.call [] (by decide) rfl (l' := []) (ow := [_]) rfl hS'
  replace hS : Sep w0 w_22 [N_10, _, _, _, _, _, _, _, _, _, _, _, _, _] Z := hS''
  refine ne (hS.sub (.cons le_5 (.rr (.rr (.zz (.zz (.rr (.rr (.rr (.rr (.rr (.rr (.rr (.rr .nn)))))))))))))) fun hs => ?_
  refine t_take 4 (bA 8 63) rfl rfl rfl rfl h hs (v := .agg ([v_8, v_9, v_10, v_11, v_13] : List Value).toArray) (fun w hS => r_build h ti35 pl35 rfl (.cons rfl (.cons (hr_13.mono ln_5).cells .nil)) (cs := [v_8, v_9, v_10, v_11, v_13]) (by kernel_rfl)) fun a h=>h_event 6 (bA 8 127) rfl (by kernel_rfl) (by kernel_rfl) ?_
  refine sto 3 h rfl rfl hS rfl ti35 rfl rfl rfl (oc hr_8.one (oc (hr_9.mono ln_4).one (oc hr_10.one (oc (hr_11.mono ln_4).one (oc (hr_13.mono ln_5).one on0))))) fun w_23 hS' => ?_
  replace hS : Sep w0 w_23 [_, _, _, bx g_3 35 [v_8, v_9, v_10, v_11, v_13], _, _, _, _, _, _, _, _, _, _] Z := hS'
  refine ne (hS.sub (.cons le_5 (.rr (.rr (.zz (.zz (.rr (.rr (.rr (.rr (.rr (.rr (.rr (.rr .nn)))))))))))))) fun hs => ?_
  refine h_event 7 (bA 8 255) rfl (by kernel_rfl) (by kernel_rfl) ?_
  refine sto 4 h rfl rfl hS rfl ti91 rfl rfl rfl (oa 1 rfl (oc hr_1.one (oz rfl))) fun w_24 hS' => ?_
  replace hS : Sep w0 w_24 [_, _, _, _, bx g_4 91 (E91 t_1.1 v_1), _, _, _, _, _, _, _, _, _] Z := hS'
  refine ne (hS.sub (.cons le_5 (.rr (.rr (.zz (.zz (.rr (.rr (.rr (.rr (.rr (.rr (.rr (.rr .nn)))))))))))))) fun hs => ?_
  refine h_done (by kernel_rfl) <| x_then_n (hKJ_3 _ _ ?_)
  refine wp_ret (x_then_r ?_)
  obtain ⟨N_11, hS', le_6, lo_1⟩ := hS.freeze 4 rfl
  replace hS : Sep w0 w_24 [N_11, _, _, _, _, Mem.no, _, _, _, _, _, _, _, _] Z := hS'
  obtain rfl := Option.some.inj H
  exact f_ret h (rs := [.cell 4 35, .cell 5 91]) rfl (.cell rfl (hS.load_agg (p := 3) (us := [v_8, v_9, v_10, v_11, v_13]) rfl U35 rfl ti35 rfl rfl) (.cell rfl (hS.load_agg (p := 4) (us := (E91 t_1.1 v_1)) rfl U91 rfl ti91 rfl rfl) .nil)) ⟨_, rfl, v_8, v_9, v_10, v_11, v_13, v_1, N_11, M_7, M_8, M_9, M_10, M_11, rfl, (hS.sel [0, 7, 8, 9, 10, 13] (by decide)), hr_8, ((hr_9.mono ln_4).mono (le_5.trans le_6)), hr_10, ((hr_11.mono ln_4).mono (le_5.trans le_6)), ((hr_13.mono ln_5).mono le_6), (hr_1.rd lo_1 (Mem.no_le _))⟩


end Go.Proofs
