/- What the calls do: each function once. -/
import Derived.Test.YtploijfgnnkddaaBlobPartsc3
namespace Go.Proofs
open Go.Gp
set_option linter.unusedVariables false
set_option maxHeartbeats 4000000 in
set_option maxRecDepth 20000 in
theorem hocketlaw10_Machine.calls (K : Nat) (x0 : List Int) (p0_0 : Value) (r : api_Machine) (w0 w : World) (Z A : Mem) (hA : A.le Z) (hS : Sep w0 w [] Z) (hp0_0 : Rd (Kd.int .i64) A p0_0 x0)
    (H : hocketlaw10_Machine.f K x0 = some r) :
    Calls Try.prog 33 [p0_0].toArray w (Ret fun v w' => ∃ (u0 : Value) (u1 : Value) (u2 : Value) (u3 : Value) (u4 : Value) (N : Mem) (M0 : Mem) (M1 : Mem) (M2 : Mem) (M3 : Mem) (M4 : Mem), v = .agg [u0, u1, u2, u3, u4].toArray ∧ Sep w0 w' [N, M0, M1, M2, M3, M4] Z ∧ Own Kd.u8 5 M0 Mem.no u0 r.Objects.Reg ∧ Own (Kd.slice Kd.u8) 22 M1 N u1 r.Objects.Queue ∧ Own (Kd.int .i64) 3 M2 Mem.no u2 r.Objects.Lock ∧ Own k_api_Pair 88 M3 N u3 r.Objects.Map ∧ Own k_api_Last 93 M4 N u4 r.Table) := by
 unfold hocketlaw10_Machine.f at H
 refine f_enter _ Try.func33 rfl Try.ntmps33 rfl fun a h=>?_
 replace h : Fr 28 a [(0, p0_0)] := h
 replace hS := hS.start
 refine qr <| v_alloc h rfl ti35 hS fun w_1 g_1 hS' a h => ?_
 replace hS : Sep w0 w_1 [_, bx g_1 35 [nS, nS, nS, nS, nS]] Z := hS'
 refine nx <| qr <| s_build h rfl ti35 pl35 rfl .nil (cs := [nS, nS, nS, nS, nS]) (by kernel_rfl) fun a h=>v_alloc h rfl ti35 hS fun w_2 g_2 hS' a h => ?_
 replace hS : Sep w0 w_2 [_, _, bx g_2 35 [nS, nS, nS, nS, nS]] Z := hS'
 refine sto 2 h rfl rfl hS rfl ti35 rfl rfl rfl (oz rfl) fun w_3 hS' => ?_
 replace hS : Sep w0 w_3 [_, _, _] Z := hS'
 refine nx <| c_seq fun KJ_1 hKJ_1 => qr <| sg h rfl fun a h=>wpList_nil <| x_then_n ?_
 have hJ_j_1 : ∀ (x_1 : api_Machine), hocketlaw10_Machine.J1 K x_1 = some r → ∀ (a : Act) (w_4 : World), (∃ (v_1 : Value) (v_2 : Value) (v_3 : Value) (v_4 : Value) (v_5 : Value) (N_1 : Mem) (M_1 : Mem) (M_2 : Mem) (M_3 : Mem) (M_4 : Mem) (M_5 : Mem), Fr 28 a [(2, .pointer (some ⟨g_1, 0, none⟩)), (3, .pointer (some ⟨g_2, 0, none⟩))] ∧ Sep w0 w_4 [N_1, bx g_1 35 [nS, nS, nS, nS, nS], bx g_2 35 [v_1, v_2, v_3, v_4, v_5], M_1, M_2, M_3, M_4, M_5] Z ∧ Mem.no.le N_1 ∧ Own Kd.u8 5 M_1 Mem.no v_1 x_1.Objects.Reg ∧ Own (Kd.slice Kd.u8) 22 M_2 N_1 v_2 x_1.Objects.Queue ∧ Own (Kd.int .i64) 3 M_3 Mem.no v_3 x_1.Objects.Lock ∧ Own k_api_Pair 88 M_4 N_1 v_4 x_1.Objects.Map ∧ Own k_api_Last 93 M_5 N_1 v_5 x_1.Table) → KJ_1 a w_4 := by
  clear H h hS a
  rintro x_1 H a w_4 ⟨v_1, v_2, v_3, v_4, v_5, N_1, M_1, M_2, M_3, M_4, M_5, h, hS, le_1, ho_1, ho_2, ho_3, ho_4, ho_5⟩
  unfold hocketlaw10_Machine.J1 at H
  refine hKJ_1 _ _ <| qr <| s_load h rfl rfl (hS.load_agg (p := 2) (us := [v_1, v_2, v_3, v_4, v_5]) rfl U35 rfl ti35 rfl rfl) fun a h=>?_
  refine sto 1 h rfl rfl hS rfl ti35 rfl rfl rfl (oc ho_1.one (oc ho_2.one (oc ho_3.one (oc ho_4.one (oc ho_5.one on0))))) fun w_5 hS' => ?_
  replace hS : Sep w0 w_5 [_, bx g_1 35 [v_1, v_2, v_3, v_4, v_5], _, _, _, _, _, _] Z := hS'
  refine wpList_nil ?_
  replace h : Fr 28 a [(2, _)] := h.keep [2]
  refine x_then_n <| wp_ret ?_
  obtain rfl := Option.some.inj H
  exact f_ret h (rs := [.cell 2 35]) rfl (.cell rfl (hS.load_agg (p := 1) (us := [v_1, v_2, v_3, v_4, v_5]) rfl U35 rfl ti35 rfl rfl) .nil) ⟨_, rfl, v_1, v_2, v_3, v_4, v_5, N_1, M_1, M_2, M_3, M_4, M_5, rfl, (hS.sel [0, 3, 4, 5, 6, 7] (by decide)), ho_1, (ho_2.mono mr), ho_3, (ho_4.mono mr), (ho_5.mono mr)⟩
 clear hKJ_1
 have hS' := hS.room
 replace hS : Sep w0 w_3 [_, _, _, Mem.no] Z := hS'
 have hS' := hS.room
 replace hS : Sep w0 w_3 [_, _, _, _, Mem.no] Z := hS'
 have hS' := hS.room
 replace hS : Sep w0 w_3 [_, _, _, _, _, Mem.no] Z := hS'
 have hS' := hS.room
 replace hS : Sep w0 w_3 [_, _, _, _, _, _, Mem.no] Z := hS'
 have hS' := hS.room
 replace hS : Sep w0 w_3 [_, _, _, _, _, _, _, Mem.no] Z := hS'
 refine c_block <| c_loop (fun k_1 a w_6 => ∃ (x_2 : Int) (x_3 : api_Machine) (v_6 : Value) (v_7 : Value) (v_8 : Value) (v_9 : Value) (v_10 : Value) (N_2 : Mem) (M_6 : Mem) (M_7 : Mem) (M_8 : Mem) (M_9 : Mem) (M_10 : Mem), hocketlaw10_Machine.L1 K x0 (fun v => hocketlaw10_Machine.J1 K v) k_1 (x_2, x_3) = some r ∧ Fr 28 a [(0, p0_0), (2, .pointer (some ⟨g_1, 0, none⟩)), (3, .pointer (some ⟨g_2, 0, none⟩)), (4, iV x_2)] ∧ Sep w0 w_6 [N_2, bx g_1 35 [nS, nS, nS, nS, nS], bx g_2 35 [v_6, v_7, v_8, v_9, v_10], M_6, M_7, M_8, M_9, M_10] Z ∧ Mem.no.le N_2 ∧ Own Kd.u8 5 M_6 Mem.no v_6 x_3.Objects.Reg ∧ Own (Kd.slice Kd.u8) 22 M_7 N_2 v_7 x_3.Objects.Queue ∧ Own (Kd.int .i64) 3 M_8 Mem.no v_8 x_3.Objects.Lock ∧ Own k_api_Pair 88 M_9 N_2 v_9 x_3.Objects.Map ∧ Own k_api_Last 93 M_10 N_2 v_10 x_3.Table) K ⟨0, (⟨(⟨([] : List UInt8), ([] : List (List UInt8)), ([] : List Int), ([] : List api_Pair)⟩ : api_Objects), ([] : List api_Last)⟩ : api_Machine), nS, nS, nS, nS, nS, Mem.no, Mem.no, Mem.no, Mem.no, Mem.no, Mem.no, H, (h.to rfl), (hS.sel [0, 1, 2, 3, 4, 5, 6, 7] (by decide)), mr, (Own.nil Kd.u8 5 Mem.no), ((Own.nil (Kd.slice Kd.u8) 22 Mem.no).mono mr), (Own.nil (Kd.int .i64) 3 Mem.no), ((Own.nil k_api_Pair 88 Mem.no).mono mr), ((Own.nil k_api_Last 93 Mem.no).mono mr)⟩ (fun a w h => by obtain ⟨_, _, _, _, _, _, _, _, _, _, _, _, _, H, _⟩ := h; cases (show (none : Option (api_Machine)) = some r from H)) ?_
 clear h hS a H
 rintro k_1 a w_6 KL_1 hKL_1 ⟨x_2, x_3, v_6, v_7, v_8, v_9, v_10, N_2, M_6, M_7, M_8, M_9, M_10, H, h, hS, le_2, ho_6, ho_7, ho_8, ho_9, ho_10⟩
 replace H : hocketlaw10_Machine.B1 K x0 (fun v => hocketlaw10_Machine.J1 K v) (hocketlaw10_Machine.L1 K x0 (fun v => hocketlaw10_Machine.J1 K v) k_1) x_2 x_3 = some r := H
 unfold hocketlaw10_Machine.B1 at H
 refine c_seq fun KJ_2 hKJ_2 => c_seq fun KJ_3 hKJ_3 => ?_
 have hJ_j_2 : ∀ (x_4 : Bool), hocketlaw10_Machine.J2 K x0 x_2 x_3 (hocketlaw10_Machine.L1 K x0 (fun v => hocketlaw10_Machine.J1 K v) k_1) (fun v => hocketlaw10_Machine.J1 K v) x_4 = some r → ∀ (a : Act) (w_7 : World), (∃ (N_3 : Mem), Fr 28 a [(0, p0_0), (2, .pointer (some ⟨g_1, 0, none⟩)), (3, .pointer (some ⟨g_2, 0, none⟩)), (4, iV x_2), (13, .bool x_4)] ∧ Sep w0 w_7 [N_3, bx g_1 35 [nS, nS, nS, nS, nS], bx g_2 35 [v_6, v_7, v_8, v_9, v_10], M_6, M_7, M_8, M_9, M_10] Z ∧ N_2.le N_3) → KJ_3 a w_7 := by
  clear H h hS a
  rintro x_4 H a w_7 ⟨N_3, h, hS, le_3⟩
  unfold hocketlaw10_Machine.J2 at H
  refine hKJ_3 _ _ ?_
  obtain ⟨hc_1, H⟩ | ⟨hc_1, H⟩ := ii H
  ·refine c_cond_t h rfl hc_1 <| wp_skip <| x_then_n (hKJ_2 _ _ ?_)
   refine c_seq fun KJ_4 hKJ_4 => c_block <| h_begin (S := fun w => Sep w0 w [N_3, bx g_1 35 [nS, nS, nS, nS, nS], Mem.no, M_6, M_7, M_8, M_9, M_10] Z) 12 (by kernel_rfl) rfl (bA 12 0) (by kernel_rfl) hS fun w_8 hS => ?_
   refine t_take 1 (bA 12 2) rfl rfl rfl rfl h (hS.sub (.cons mr (.rr (.zz .ii)))) (v := p0_0) (fun w hS => r_move h rfl) fun a h=>t_take 2 (bA 12 6) rfl rfl rfl rfl h (hS.sub (.cons mr (.rr (.zz .ii)))) (v := iV x_2) (fun w hS => r_move h rfl) fun a h=>?_
   obtain ⟨t_1, et_1, H⟩ := bs H
   refine t_takeE 3 (bA 12 14) rfl rfl rfl rfl h (hS.sub (.cons mr (.rr (.zz .ii)))) (f := fun ad => .pointer (some ad)) (r_index h U29 ti3 rfl rfl rfl hp0_0 et_1) ?_
   rintro ad_1 ⟨cs_1, hk_1, hc_2⟩
   obtain rfl := (show cs_1 = [iV t_1] from hk_1)
   intro a h
   refine t_take 4 (bA 12 30) rfl rfl rfl rfl h (hS.sub (.cons mr (.rr (.zz .ii)))) (v := iV t_1) (fun w hS => r_load h rfl (el_one (o := 0) (fun j c h => Mem.cell_le (hA.trans hS.old) (hc_2 j c h)) U3 rfl rfl)) fun a h=>t_take 5 (bA 12 62) rfl rfl rfl rfl h (hS.sub (.cons mr (.rr (.zz .ii)))) (v := iV x_2) (fun w hS => r_move h rfl) fun a h=>?_
   obtain ⟨t_2, et_2, H⟩ := bs H
   obtain ⟨t_3, et_3, H⟩ := bs H
   refine h_state fun GD_1 hGD_1 => ?_
   have hD_1 : ∀ (a : Act) (w_9 : World), (∃ (v_11 : Value) (v_12 : Value) (v_13 : Value) (v_14 : Value) (v_15 : Value) (N_4 : Mem) (M_11 : Mem) (M_12 : Mem) (M_13 : Mem) (M_14 : Mem) (M_15 : Mem), Fr 28 a [(0, p0_0), (2, .pointer (some ⟨g_1, 0, none⟩)), (3, .pointer (some ⟨g_2, 0, none⟩)), (4, iV x_2)] ∧ Sep w0 w_9 [N_4, bx g_1 35 [nS, nS, nS, nS, nS], bx g_2 35 [v_11, v_12, v_13, v_14, v_15], M_6, M_7, M_8, M_9, M_10, M_11, M_12, M_13, M_14, M_15] Z ∧ N_3.le N_4 ∧ Own Kd.u8 5 M_11 Mem.no v_11 t_3.1.Objects.Reg ∧ Own (Kd.slice Kd.u8) 22 M_12 N_4 v_12 t_3.1.Objects.Queue ∧ Own (Kd.int .i64) 3 M_13 Mem.no v_13 t_3.1.Objects.Lock ∧ Own k_api_Pair 88 M_14 N_4 v_14 t_3.1.Objects.Map ∧ Own k_api_Last 93 M_15 N_4 v_15 t_3.1.Table) → GD_1 0 (bA 12 4095) a w_9 := by
    rintro a w_9 ⟨v_11, v_12, v_13, v_14, v_15, N_4, M_11, M_12, M_13, M_14, M_15, h, hS, le_4, ho_11, ho_12, ho_13, ho_14, ho_15⟩
    refine (hGD_1 _ _ _ _).2 <| h_done (by kernel_rfl) ?_
    replace h : Fr 28 a [(0, _), (2, _), (3, _), (4, _)] := h.keep [0, 2, 3, 4]
    refine x_block_n <| x_then_n (hKJ_4 _ _ ?_)
    refine wp_region_lit <| mv h rfl fun a h=>s_arith (r := w64 (x_2 + 1)) h rfl rfl rfl (.inl ⟨rfl, rfl⟩) fun a h=>sg h rfl fun a h=>wpList_nil <| x_then_n (hKL_1 _ _ ?_)
    exact ⟨w64 (x_2 + 1), t_3.1, v_11, v_12, v_13, v_14, v_15, N_4, M_11, M_12, M_13, M_14, M_15, H, (h.to rfl), (hS.sel [0, 1, 2, 8, 9, 10, 11, 12] (by decide)), (le_2.trans (le_3.trans le_4)), ho_11, (ho_12.mono mr), ho_13, (ho_14.mono mr), (ho_15.mono mr)⟩
   have hD_2 : ∀ (a : Act) (w_10 : World), (∃ (v_16 : Value) (v_17 : Value) (v_18 : Value) (v_19 : Value) (v_20 : Value) (N_5 : Mem) (M_16 : Mem) (M_17 : Mem) (M_18 : Mem) (M_19 : Mem) (M_20 : Mem), Fr 28 a [(0, p0_0), (2, .pointer (some ⟨g_1, 0, none⟩)), (3, .pointer (some ⟨g_2, 0, none⟩)), (4, iV x_2), (25, .agg ([v_16, v_17, v_18, v_19, v_20] : List Value).toArray)] ∧ Sep w0 w_10 [N_5, bx g_1 35 [nS, nS, nS, nS, nS], bx g_2 35 [v_6, v_7, v_8, v_9, v_10], M_6, M_7, M_8, M_9, M_10, M_16, M_17, M_18, M_19, M_20] Z ∧ N_3.le N_5 ∧ Own Kd.u8 5 M_16 Mem.no v_16 t_3.1.Objects.Reg ∧ Own (Kd.slice Kd.u8) 22 M_17 N_5 v_17 t_3.1.Objects.Queue ∧ Own (Kd.int .i64) 3 M_18 Mem.no v_18 t_3.1.Objects.Lock ∧ Own k_api_Pair 88 M_19 N_5 v_19 t_3.1.Objects.Map ∧ Own k_api_Last 93 M_20 N_5 v_20 t_3.1.Table) → GD_1 1 (bA 12 2047) a w_10 := by
    rintro a w_10 ⟨v_16, v_17, v_18, v_19, v_20, N_5, M_16, M_17, M_18, M_19, M_20, h, hS, le_5, ho_16, ho_17, ho_18, ho_19, ho_20⟩
    refine (hGD_1 _ _ _ _).2 <| h_events [11] (by kernel_rfl) (by simp) ?_
    intro i hi; simp only [List.mem_cons, List.not_mem_nil, or_false] at hi; rcases hi with rfl
    refine ⟨_, (bA 12 4095), rfl, by kernel_rfl, ?_⟩
    refine sto 2 h rfl rfl hS rfl ti35 rfl rfl rfl (oc ho_16.one (oc ho_17.one (oc ho_18.one (oc ho_19.one (oc ho_20.one on0))))) fun w_11 hS' => ?_
    replace hS : Sep w0 w_11 [_, _, bx g_2 35 [v_16, v_17, v_18, v_19, v_20], _, _, _, _, _, _, _, _, _, _] Z := hS'
    refine ne (hS.sub (.cons le_5 (.rr (.zz (.rr (.rr (.rr (.rr (.rr .nn))))))))) fun hs => ?_
    exact (hGD_1 _ _ _ _).1 (hD_1 _ _ ⟨v_16, v_17, v_18, v_19, v_20, N_5, M_16, M_17, M_18, M_19, M_20, (h.to rfl), (hS.sel [0, 1, 2, 3, 4, 5, 6, 7, 8, 9, 10, 11, 12] (by decide)), le_5, ho_16, (ho_17.mono mr), ho_18, (ho_19.mono mr), (ho_20.mono mr)⟩)
   have hD_3 : ∀ (a : Act) (w_12 : World), (∃ (v_21 : Value) (v_22 : Value) (v_23 : Value) (N_6 : Mem), Fr 28 a [(0, p0_0), (2, .pointer (some ⟨g_1, 0, none⟩)), (3, .pointer (some ⟨g_2, 0, none⟩)), (4, iV x_2), (17, .agg ([v_6, v_7, v_8, v_9, v_10] : List Value).toArray), (23, .agg (E26 t_2 v_21 v_22 v_23).toArray)] ∧ Sep w0 w_12 [N_6, bx g_1 35 [nS, nS, nS, nS, nS], bx g_2 35 [v_6, v_7, v_8, v_9, v_10], M_6, M_7, M_8, M_9, M_10] Z ∧ N_3.le N_6 ∧ Rd Kd.u8 N_6 v_21 t_2.Cmd.Key ∧ Rd Kd.u8 N_6 v_22 t_2.Cmd.Val ∧ Rd Kd.u8 N_6 v_23 t_2.Cmd.Old) → GD_1 5 (bA 12 127) a w_12 := by
    rintro a w_12 ⟨v_21, v_22, v_23, N_6, h, hS, le_6, hr_1, hr_2, hr_3⟩
    refine (hGD_1 _ _ _ _).2 <| h_events [7] (by kernel_rfl) (by simp) ?_
    intro i hi; simp only [List.mem_cons, List.not_mem_nil, or_false] at hi; rcases hi with rfl
    refine ⟨_, (bA 12 255), rfl, by kernel_rfl, ?_⟩
    refine s_call h rfl Try.call61 rfl (hocketref4_Step.calls K x_3 _ _ _ _ _ t_2 _ _ _ t_3 w0 _ _ _ mr (hS.enter [] (by decide)) (ho_6.rd (hS.own_zed [] 2 (by decide)) (Mem.no_le _)) (ho_7.rd (hS.own_zed [] 3 (by decide)) ((le_3.trans le_6).trans (hS.new_zed []))) (ho_8.rd (hS.own_zed [] 4 (by decide)) (Mem.no_le _)) (ho_9.rd (hS.own_zed [] 5 (by decide)) ((le_3.trans le_6).trans (hS.new_zed []))) (ho_10.rd (hS.own_zed [] 6 (by decide)) ((le_3.trans le_6).trans (hS.new_zed []))) (hr_1.mono (mr.trans (hS.new_zed []))) (hr_2.mono (mr.trans (hS.new_zed []))) (hr_3.mono (mr.trans (hS.new_zed []))) et_3) ?_
    rintro _ w_13 ⟨v_24, v_25, v_26, v_27, v_28, v_29, N_7, M_21, M_22, M_23, M_24, M_25, rfl, hS', hr_4, hr_5, hr_6, hr_7, hr_8, hr_9⟩
    intro a h
    obtain ⟨N_8, hS'', le_7, ln_1⟩ := hS.call [] (by decide) rfl (l' := []) (ow := [_, _, _, _, _]) rfl hS'
    replace hS : Sep w0 w_13 [N_8, _, _, _, _, _, _, _, _, _, _, _, _] Z := hS''
    refine ne (hS.sub (.cons (le_6.trans le_7) (.rr (.zz (.rr (.rr (.rr (.rr (.rr .nn))))))))) fun hs => ?_
    refine t_take 8 (bA 12 511) rfl rfl rfl rfl h hs (v := .tuple [.agg ([v_24, v_25, v_26, v_27, v_28] : List Value).toArray, .agg (E91 t_3.2 v_29).toArray].toArray) (fun w hS => r_move h rfl) fun a h=>t_take 9 (bA 12 1023) rfl rfl rfl rfl h hs (v := .agg ([v_24, v_25, v_26, v_27, v_28] : List Value).toArray) (fun w hS => r_extract h rfl rfl) fun a h=>t_take 10 (bA 12 2047) rfl rfl rfl rfl h hs (v := .agg (E91 t_3.2 v_29).toArray) (fun w hS => r_extract h rfl rfl) fun a h=>?_
    exact (hGD_1 _ _ _ _).1 (hD_2 _ _ ⟨v_24, v_25, v_26, v_27, v_28, N_8, M_21, M_22, M_23, M_24, M_25, (h.to rfl), (hS.sel [0, 1, 2, 3, 4, 5, 6, 7, 8, 9, 10, 11, 12] (by decide)), (le_6.trans le_7), hr_4, ((hr_5.mono ln_1).mono mr), hr_6, ((hr_7.mono ln_1).mono mr), ((hr_8.mono ln_1).mono mr)⟩)
   have hD_4 : ∀ (a : Act) (w_14 : World), (∃ (N_9 : Mem), Fr 28 a [(0, p0_0), (2, .pointer (some ⟨g_1, 0, none⟩)), (3, .pointer (some ⟨g_2, 0, none⟩)), (4, iV x_2), (17, .agg ([v_6, v_7, v_8, v_9, v_10] : List Value).toArray), (21, iV t_1), (22, iV x_2)] ∧ Sep w0 w_14 [N_9, bx g_1 35 [nS, nS, nS, nS, nS], bx g_2 35 [v_6, v_7, v_8, v_9, v_10], M_6, M_7, M_8, M_9, M_10] Z ∧ N_3.le N_9) → GD_1 6 (bA 12 63) a w_14 := by
    rintro a w_14 ⟨N_9, h, hS, le_8⟩
    refine (hGD_1 _ _ _ _).2 <| h_events [6] (by kernel_rfl) (by simp) ?_
    intro i hi; simp only [List.mem_cons, List.not_mem_nil, or_false] at hi; rcases hi with rfl
    refine ⟨_, (bA 12 127), rfl, by kernel_rfl, ?_⟩
    refine s_call h rfl Try.call34 rfl (hocketlaw10_Entry.calls t_1 x_2 t_2 w0 _ _ _ mr (hS.enter [] (by decide))  et_2) ?_
    rintro _ w_15 ⟨v_30, v_31, v_32, N_10, rfl, hS', hr_10, hr_11, hr_12⟩
    intro a h
    obtain ⟨N_11, hS'', le_9, ln_2⟩ := hS.call [] (by decide) rfl (l' := []) (ow := []) rfl hS'
    replace hS : Sep w0 w_15 [N_11, _, _, _, _, _, _, _] Z := hS''
    refine ne (hS.sub (.cons (le_8.trans le_9) (.rr (.zz .ii)))) fun hs => ?_
    exact (hGD_1 _ _ _ _).1 (hD_3 _ _ ⟨v_30, v_31, v_32, N_11, (h.to rfl), (hS.sel [0, 1, 2, 3, 4, 5, 6, 7] (by decide)), (le_8.trans le_9), (hr_10.mono ln_2), (hr_11.mono ln_2), (hr_12.mono ln_2)⟩)
   have hD_5 : ∀ (a : Act) (w_16 : World), (∃ (v_33 : Value) (v_34 : Value) (v_35 : Value) (N_12 : Mem), Fr 28 a [(0, p0_0), (2, .pointer (some ⟨g_1, 0, none⟩)), (3, .pointer (some ⟨g_2, 0, none⟩)), (4, iV x_2), (23, .agg (E26 t_2 v_33 v_34 v_35).toArray)] ∧ Sep w0 w_16 [N_12, bx g_1 35 [nS, nS, nS, nS, nS], bx g_2 35 [v_6, v_7, v_8, v_9, v_10], M_6, M_7, M_8, M_9, M_10] Z ∧ N_3.le N_12 ∧ Rd Kd.u8 N_12 v_33 t_2.Cmd.Key ∧ Rd Kd.u8 N_12 v_34 t_2.Cmd.Val ∧ Rd Kd.u8 N_12 v_35 t_2.Cmd.Old) → GD_1 6 (bA 12 126) a w_16 := by
    rintro a w_16 ⟨v_33, v_34, v_35, N_12, h, hS, le_10, hr_13, hr_14, hr_15⟩
    refine (hGD_1 _ _ _ _).2 <| h_events [0] (by kernel_rfl) (by simp) ?_
    intro i hi; simp only [List.mem_cons, List.not_mem_nil, or_false] at hi; rcases hi with rfl
    refine ⟨_, (bA 12 127), rfl, by kernel_rfl, ?_⟩
    refine s_load h rfl rfl (hS.load_agg (p := 2) (us := [v_6, v_7, v_8, v_9, v_10]) rfl U35 rfl ti35 rfl rfl) fun a h=>wpList_nil <| x_then_n ⟨(hS.sub (.cons le_10 (.rr (.zz .ii)))), ?_⟩
    exact (hGD_1 _ _ _ _).1 (hD_3 _ _ ⟨v_33, v_34, v_35, N_12, (h.to rfl), (hS.sel [0, 1, 2, 3, 4, 5, 6, 7] (by decide)), le_10, hr_13, hr_14, hr_15⟩)
   refine (hGD_1 _ _ _ _).2 <| h_evs [0, 6] (by kernel_rfl) ⟨⟨_, (bA 12 63), rfl, by kernel_rfl, ?_⟩, ⟨_, (bA 12 126), rfl, by kernel_rfl, ?_⟩, trivial⟩
   ·refine s_load h rfl rfl (hS.load_agg (p := 2) (us := [v_6, v_7, v_8, v_9, v_10]) rfl U35 rfl ti35 rfl rfl) fun a h=>wpList_nil <| x_then_n ⟨(hS.sub (.cons mr (.rr (.zz .ii)))), ?_⟩
    exact (hGD_1 _ _ _ _).1 (hD_4 _ _ ⟨N_3, (h.to rfl), (hS.sel [0, 1, 2, 3, 4, 5, 6, 7] (by decide)), mr⟩)
   ·refine s_call h rfl Try.call34 rfl (hocketlaw10_Entry.calls t_1 x_2 t_2 w0 _ _ _ mr (hS.enter [] (by decide))  et_2) ?_
    rintro _ w_17 ⟨v_36, v_37, v_38, N_13, rfl, hS', hr_16, hr_17, hr_18⟩
    intro a h
    obtain ⟨N_14, hS'', le_11, ln_3⟩ := hS.call [] (by decide) rfl (l' := []) (ow := []) rfl hS'
    replace hS : Sep w0 w_17 [N_14, _, _, _, _, _, _, _] Z := hS''
    refine ne (hS.sub (.cons le_11 (.rr (.zz .ii)))) fun hs => ?_
    exact (hGD_1 _ _ _ _).1 (hD_5 _ _ ⟨v_36, v_37, v_38, N_14, (h.to rfl), (hS.sel [0, 1, 2, 3, 4, 5, 6, 7] (by decide)), le_11, (hr_16.mono ln_3), (hr_17.mono ln_3), (hr_18.mono ln_3)⟩)
  ·refine c_cond_f h rfl (ef hc_1) <| wp_exit (x_then_x (x_then_x (x_block_t ?_)))
   exact x_then_n (hJ_j_1 x_3 H _ _ ⟨v_6, v_7, v_8, v_9, v_10, N_3, M_6, M_7, M_8, M_9, M_10, (h.to rfl), (hS.sel [0, 1, 2, 3, 4, 5, 6, 7] (by decide)), (le_2.trans le_3), ho_6, (ho_7.mono le_3), ho_8, (ho_9.mono le_3), (ho_10.mono le_3)⟩)
 clear hKJ_3
 refine wp_region_lit <| mv h rfl fun a h=>mv h rfl fun a h=>s_len h rfl U29 rfl hp0_0 fun a h=>s_cmp (b := decide (x_2 < (x0.length : Int))) h rfl rfl rfl (.inr (.inr (.inl ⟨rfl, rfl⟩))) fun a h=>mv h rfl fun a h=>?_
 obtain ⟨hc_3, H⟩ | ⟨hc_3, H⟩ := ii H
 ·refine s_on h rfl rfl (dt hc_3) <| mv h rfl fun a h=>s_on h rfl rfl (dt hc_3) <| s_cmp (b := decide (x_2 < 60)) h rfl rfl rfl (.inr (.inr (.inl ⟨rfl, rfl⟩))) fun a h=>pt h rfl (dt hc_3) fun a h=>wpList_nil ?_
  replace h : Fr 28 a [(0, _), (2, _), (3, _), (4, _), (13, .bool (decide (x_2 < 60)))] := h.keep [0, 2, 3, 4, 13]
  exact x_then_n (hJ_j_2 (decide (x_2 < 60)) H _ _ ⟨N_2, (h.to rfl), (hS.sel [0, 1, 2, 3, 4, 5, 6, 7] (by decide)), mr⟩)
 ·refine of h rfl rfl (df hc_3) fun a h=>of h rfl rfl (df hc_3) fun a h=>pf h rfl (df hc_3) fun a h=>wpList_nil ?_
  replace h : Fr 28 a [(0, _), (2, _), (3, _), (4, _), (13, .bool false)] := h.keep [0, 2, 3, 4, 13]
  exact x_then_n (hJ_j_2 false H _ _ ⟨N_2, (h.to rfl), (hS.sel [0, 1, 2, 3, 4, 5, 6, 7] (by decide)), mr⟩)

set_option maxHeartbeats 4000000 in
set_option maxRecDepth 20000 in
theorem hocketlaw15_State.calls (K : Nat) (x0 : List Int) (p0_0 : Value) (x1 : Int) (x2 : Int) (r : api_State) (w0 w : World) (Z A : Mem) (hA : A.le Z) (hS : Sep w0 w [] Z) (hp0_0 : Rd (Kd.int .i64) A p0_0 x0)
    (H : hocketlaw15_State.f K x0 x1 x2 = some r) :
    Calls Try.prog 13 [p0_0, iV x1, iV x2].toArray w (Ret fun v w' => ∃ (u0 : Value) (u1 : Value) (u2 : Value) (u3 : Value) (u4 : Value) (u5 : Value) (N : Mem) (M0 : Mem) (M1 : Mem) (M2 : Mem) (M3 : Mem) (M4 : Mem) (M5 : Mem), v = .agg [iV r.At, u0, u1, u2, u3, u4, u5].toArray ∧ Sep w0 w' [N, M0, M1, M2, M3, M4, M5] Z ∧ Own Kd.u8 5 M0 Mem.no u0 r.Machine.Objects.Reg ∧ Own (Kd.slice Kd.u8) 22 M1 N u1 r.Machine.Objects.Queue ∧ Own (Kd.int .i64) 3 M2 Mem.no u2 r.Machine.Objects.Lock ∧ Own k_api_Pair 88 M3 N u3 r.Machine.Objects.Map ∧ Own k_api_Last 93 M4 N u4 r.Machine.Table ∧ Own k_api_Entry 26 M5 N u5 r.Rest) := by
 unfold hocketlaw15_State.f at H
 refine f_enter _ Try.func13 rfl Try.ntmps13 rfl fun a h=>?_
 replace h : Fr 45 a [(0, p0_0), (1, iV x1), (2, iV x2)] := h
 replace hS := hS.start
 refine qr <| v_alloc h rfl ti37 hS fun w_1 g_1 hS' a h => ?_
 replace hS : Sep w0 w_1 [_, bx g_1 37 [iV 0, nS, nS, nS, nS, nS, nS]] Z := hS'
 refine nx <| qr <| mv h rfl fun a h=>s_bits (i := x1) (j := 65535) (r := band .i64 x1 65535) h rfl rfl rfl (.inl ⟨rfl, rfl⟩) fun a h=>mv h rfl fun a h=>?_
 obtain ⟨t_1, et_1, H⟩ := bs H
 refine s_call h rfl Try.call33 rfl (hocketlaw10_Machine.calls K x0 _ t_1 w0 _ _ _ mr (hS.enter [] (by decide)) (hp0_0.mono (hA.trans (hS.le_zed []))) et_1) ?_
 rintro _ w_2 ⟨v_1, v_2, v_3, v_4, v_5, N_1, M_1, M_2, M_3, M_4, M_5, rfl, hS', hr_1, hr_2, hr_3, hr_4, hr_5⟩
 intro a h
 obtain ⟨N_2, hS'', le_1, ln_1⟩ := hS.call [] (by decide) rfl (l' := []) (ow := [_, _, _, _, _]) rfl hS'
 replace hS : Sep w0 w_2 [N_2, _, _, _, _, _, _] Z := hS''
 refine s_build h rfl ti37 pl37 rfl (.cons rfl (.cons rfl .nil)) (cs := [iV (band .i64 x1 65535), v_1, v_2, v_3, v_4, v_5, nS]) (by kernel_rfl) fun a h=>v_alloc h rfl ti37 hS fun w_3 g_2 hS' a h => ?_
 replace hS : Sep w0 w_3 [_, _, _, _, _, _, _, bx g_2 37 [iV 0, nS, nS, nS, nS, nS, nS]] Z := hS'
 refine sto 7 h rfl rfl hS rfl ti37 rfl rfl rfl (oa 1 rfl (oc hr_1.one (oc (hr_2.mono ln_1).one (oc hr_3.one (oc (hr_4.mono ln_1).one (oc (hr_5.mono ln_1).one (oz rfl))))))) fun w_4 hS' => ?_
 replace hS : Sep w0 w_4 [_, _, _, _, _, _, _, bx g_2 37 [iV (band .i64 x1 65535), v_1, v_2, v_3, v_4, v_5, _]] Z := hS'
 refine nx <| c_seq fun KJ_1 hKJ_1 => qr <| sg h rfl fun a h=>wpList_nil <| x_then_n ?_
 have hJ_j_1 : ∀ (x_1 : List api_Entry), hocketlaw15_State.J1 K x1 t_1 x_1 = some r → ∀ (a : Act) (w_5 : World), (∃ (v_6 : Value) (N_3 : Mem) (M_6 : Mem), Fr 45 a [(6, .pointer (some ⟨g_1, 0, none⟩)), (7, .pointer (some ⟨g_2, 0, none⟩))] ∧ Sep w0 w_5 [N_3, bx g_1 37 [iV 0, nS, nS, nS, nS, nS, nS], M_1, M_2, M_3, M_4, M_5, bx g_2 37 [iV (band .i64 x1 65535), v_1, v_2, v_3, v_4, v_5, v_6], M_6] Z ∧ N_2.le N_3 ∧ Own k_api_Entry 26 M_6 N_3 v_6 x_1) → KJ_1 a w_5 := by
  clear H h hS a
  rintro x_1 H a w_5 ⟨v_6, N_3, M_6, h, hS, le_2, ho_1⟩
  unfold hocketlaw15_State.J1 at H
  refine hKJ_1 _ _ <| qr <| s_load h rfl rfl (hS.load_agg (p := 7) (us := [iV (band .i64 x1 65535), v_1, v_2, v_3, v_4, v_5, v_6]) rfl U37 rfl ti37 rfl rfl) fun a h=>?_
  refine sto 1 h rfl rfl hS rfl ti37 rfl rfl rfl (oa 1 rfl (oc hr_1.one (oc (hr_2.mono ln_1).one (oc hr_3.one (oc (hr_4.mono ln_1).one (oc (hr_5.mono ln_1).one (oc ho_1.one on0))))))) fun w_6 hS' => ?_
  replace hS : Sep w0 w_6 [_, bx g_1 37 [iV (band .i64 x1 65535), v_1, v_2, v_3, v_4, v_5, v_6], _, _, _, _, _, _, _] Z := hS'
  refine wpList_nil ?_
  replace h : Fr 45 a [(6, _)] := h.keep [6]
  refine x_then_n <| wp_ret ?_
  obtain rfl := Option.some.inj H
  exact f_ret h (rs := [.cell 6 37]) rfl (.cell rfl (hS.load_agg (p := 1) (us := [iV (band .i64 x1 65535), v_1, v_2, v_3, v_4, v_5, v_6]) rfl U37 rfl ti37 rfl rfl) .nil) ⟨_, rfl, v_1, v_2, v_3, v_4, v_5, v_6, N_3, M_1, M_2, M_3, M_4, M_5, M_6, rfl, (hS.sel [0, 2, 3, 4, 5, 6, 8] (by decide)), hr_1, ((hr_2.mono ln_1).mono le_2), hr_3, ((hr_4.mono ln_1).mono le_2), ((hr_5.mono ln_1).mono le_2), (ho_1.mono mr)⟩
 clear hKJ_1
 have hS' := hS.room
 replace hS : Sep w0 w_4 [_, _, _, _, _, _, _, _, Mem.no] Z := hS'
 refine c_block <| c_loop (fun k_1 a w_7 => ∃ (x_2 : Int) (x_3 : List api_Entry) (v_7 : Value) (N_4 : Mem) (M_7 : Mem), hocketlaw15_State.L1 K x2 x1 (fun v => hocketlaw15_State.J1 K x1 t_1 v) k_1 (x_2, x_3) = some r ∧ Fr 45 a [(1, iV x1), (2, iV x2), (6, .pointer (some ⟨g_1, 0, none⟩)), (7, .pointer (some ⟨g_2, 0, none⟩)), (8, iV x_2)] ∧ Sep w0 w_7 [N_4, bx g_1 37 [iV 0, nS, nS, nS, nS, nS, nS], M_1, M_2, M_3, M_4, M_5, bx g_2 37 [iV (band .i64 x1 65535), v_1, v_2, v_3, v_4, v_5, v_7], M_7] Z ∧ N_2.le N_4 ∧ Own k_api_Entry 26 M_7 N_4 v_7 x_3) K ⟨0, ([] : List api_Entry), nS, N_2, Mem.no, H, (h.to rfl), (hS.sel [0, 1, 2, 3, 4, 5, 6, 7, 8] (by decide)), mr, ((Own.nil k_api_Entry 26 N_2).mono mr)⟩ (fun a w h => by obtain ⟨_, _, _, _, _, H, _⟩ := h; cases (show (none : Option (api_State)) = some r from H)) ?_
 clear h hS a H
 rintro k_1 a w_7 KL_1 hKL_1 ⟨x_2, x_3, v_7, N_4, M_7, H, h, hS, le_3, ho_2⟩
 replace H : hocketlaw15_State.B1 K x2 x1 (fun v => hocketlaw15_State.J1 K x1 t_1 v) (hocketlaw15_State.L1 K x2 x1 (fun v => hocketlaw15_State.J1 K x1 t_1 v) k_1) x_2 x_3 = some r := H
 unfold hocketlaw15_State.B1 at H
 refine c_seq fun KJ_2 hKJ_2 => qr <| mv h rfl fun a h=>mv h rfl fun a h=>s_bits (i := x2) (j := 31) (r := band .i64 x2 31) h rfl rfl rfl (.inl ⟨rfl, rfl⟩) fun a h=>s_cmp (b := decide (x_2 < (band .i64 x2 31))) h rfl rfl rfl (.inr (.inr (.inl ⟨rfl, rfl⟩))) fun a h=>wpList_nil ?_
 replace h : Fr 45 a [(1, _), (2, _), (6, _), (7, _), (8, _), (18, .bool (decide (x_2 < (band .i64 x2 31))))] := h.keep [1, 2, 6, 7, 8, 18]
 refine x_then_n ?_
 obtain ⟨hc_1, H⟩ | ⟨hc_1, H⟩ := ii H
 ·refine c_cond_t h rfl (dt hc_1) <| wp_skip <| x_then_n (hKJ_2 _ _ ?_)
  refine wp_seq <| c_block <| qr <| mv h rfl fun a h=>mv h rfl fun a h=>s_bits (i := x_2) (j := 7) (r := band .i64 x_2 7) h rfl rfl rfl (.inl ⟨rfl, rfl⟩) fun a h=>s_conv (wu64 (band .i64 x_2 7)) h rfl U3 U53 rfl rfl fun a h=>s_shift (r := shr .i64 x1 (wu64 (band .i64 x_2 7))) h rfl rfl rfl (wu64_nn _) (.inr ⟨rfl, rfl⟩) fun a h=>mv h rfl fun a h=>s_arith (r := w64 (x_2 * 977)) h rfl rfl rfl (.inr (.inr ⟨rfl, rfl⟩)) fun a h=>s_arith (r := w64 ((shr .i64 x1 (wu64 (band .i64 x_2 7))) + (w64 (x_2 * 977)))) h rfl rfl rfl (.inl ⟨rfl, rfl⟩) fun a h=>?_
  refine mv h rfl fun a h=>s_arith (r := w64 (x_2 + 20)) h rfl rfl rfl (.inl ⟨rfl, rfl⟩) fun a h=>?_
  obtain ⟨t_2, et_2, H⟩ := bs H
  refine s_call h rfl Try.call34 rfl (hocketlaw10_Entry.calls (w64 ((shr .i64 x1 (wu64 (band .i64 x_2 7))) + (w64 (x_2 * 977)))) (w64 (x_2 + 20)) t_2 w0 _ _ _ mr (hS.enter [] (by decide))  et_2) ?_
  rintro _ w_8 ⟨v_8, v_9, v_10, N_5, rfl, hS', hr_6, hr_7, hr_8⟩
  intro a h
  obtain ⟨N_6, hS'', le_4, ln_2⟩ := hS.call [] (by decide) rfl (l' := []) (ow := []) rfl hS'
  replace hS : Sep w0 w_8 [N_6, _, _, _, _, _, _, _, _] Z := hS''
  refine v_alloc h rfl ti26 hS fun w_9 g_3 hS' a h => ?_
  replace hS : Sep w0 w_9 [_, _, _, _, _, _, _, _, _, bx g_3 26 [iV 0, iV 0, iV 0, iV 0, nS, nS, nS]] Z := hS'
  refine sto 9 h rfl rfl hS rfl ti26 rfl rfl rfl (oa 4 rfl (oc (hr_6.mono ln_2).one (oc (hr_7.mono ln_2).one (oc (hr_8.mono ln_2).one on0)))) fun w_10 hS' => ?_
  replace hS : Sep w0 w_10 [_, _, _, _, _, _, _, _, _, bx g_3 26 (E26 t_2 v_8 v_9 v_10)] Z := hS'
  refine nx <| qr <| s_fieldAddr h rfl U26 rfl ti24 rfl rfl fun a h=>s_fieldAddr h rfl U24 rfl ti3 rfl rfl fun a h=>s_load h rfl rfl (hS.load_one (p := 9) rfl U3 rfl rfl) fun a h=>s_max h rfl rfl rfl fun a h=>s_fieldAddr h rfl U26 rfl ti24 rfl rfl fun a h=>s_fieldAddr h rfl U24 rfl ti3 rfl rfl fun a h=>?_
  refine sto 9 h rfl rfl hS rfl ti3 rfl rfl rfl (oz rfl) fun w_11 hS' => ?_
  replace hS : Sep w0 w_11 [_, _, _, _, _, _, _, _, _, bx g_3 26 [_, _, _, iV (mx t_2.Cmd.Who 0), _, _, _]] Z := hS'
  refine nx <| wp_region_lit <| s_fieldAddr h rfl U37 rfl ti27 rfl rfl fun a h=>s_load h rfl rfl (hS.load_one (p := 7) rfl U27 rfl rfl) fun a h=>s_load h rfl rfl (hS.load_agg (p := 9) (us := [iV t_2.Sess, iV t_2.Seq, iV t_2.Cmd.Kind, iV (mx t_2.Cmd.Who 0), v_8, v_9, v_10]) rfl U26 rfl ti26 rfl rfl) fun a h=>?_
  have hq_1 : Reps k_api_Entry N_6 ([(⟨t_2.Sess, t_2.Seq, (⟨t_2.Cmd.Kind, mx t_2.Cmd.Who 0, t_2.Cmd.Key, t_2.Cmd.Val, t_2.Cmd.Old⟩ : api_Cmd)⟩ : api_Entry)] : List api_Entry) _ := ((Reps.one (d := k_api_Entry) (x := (⟨t_2.Sess, t_2.Seq, (⟨t_2.Cmd.Kind, mx t_2.Cmd.Who 0, t_2.Cmd.Key, t_2.Cmd.Val, t_2.Cmd.Old⟩ : api_Cmd)⟩ : api_Entry)) (k_api_Entry.mk' (hr_6.mono ln_2) (hr_7.mono ln_2) (hr_8.mono ln_2))).append (Reps.nil k_api_Entry _))
  refine s_buildSlice h rfl U27 ti26 rfl rfl rfl (.cons rfl .nil) rfl rfl rfl hS hq_1 rfl fun w_12 v_11 M_8 hS' ho_3 a h => ?_
  replace hS : Sep w0 w_12 [_, _, _, _, _, _, _, _, _, _, M_8] Z := hS'
  obtain ⟨t_3, et_3, H⟩ := bs H
  refine s_append (J := N_6) (I' := N_6) (p := 8) 1353245080339 h rfl rfl rfl U27 ti26 rfl rfl rfl rfl hS rfl ho_2 (ho_3.src (hS.own 10)) le_4 mr et_3 fun w_13 v_12 M_9 hS' ho_4 a h => ?_
  replace hS : Sep w0 w_13 [_, _, _, _, _, _, _, _, M_9, _, _] Z := hS'
  refine s_fieldAddr h rfl U37 rfl ti27 rfl rfl fun a h=>?_
  refine sto 7 h rfl rfl hS rfl ti27 ho_4.cellsA rfl rfl (oc ho_4.one on0) fun w_14 hS' => ?_
  replace hS : Sep w0 w_14 [_, _, _, _, _, _, _, bx g_2 37 [_, _, _, _, _, _, v_12], _, _, _] Z := hS'
  refine wpList_nil <| x_block_n <| x_then_n <| wp_region_lit <| mv h rfl fun a h=>s_arith (r := w64 (x_2 + 1)) h rfl rfl rfl (.inl ⟨rfl, rfl⟩) fun a h=>sg h rfl fun a h=>wpList_nil ?_
  replace h : Fr 45 a [(1, _), (2, _), (6, _), (7, _), (8, iV (w64 (x_2 + 1)))] := h.keep [1, 2, 6, 7, 8]
  refine x_then_n (hKL_1 _ _ ?_)
  exact ⟨w64 (x_2 + 1), t_3, v_12, N_6, M_9, H, (h.to rfl), (hS.sel [0, 1, 2, 3, 4, 5, 6, 7, 8] (by decide)), (le_3.trans le_4), (ho_4.mono mr)⟩
 ·refine c_cond_f h rfl (df hc_1) <| wp_exit (x_then_x (x_then_x (x_block_t ?_)))
  exact x_then_n (hJ_j_1 x_3 H _ _ ⟨v_7, N_4, M_7, (h.to rfl), (hS.sel [0, 1, 2, 3, 4, 5, 6, 7, 8] (by decide)), le_3, (ho_2.mono mr)⟩)

set_option maxHeartbeats 4000000 in
set_option maxRecDepth 20000 in
theorem mach_right_2.calls (x0 : api_Last) (p0_0 : Value) (x1 : api_Last) (p1_1 : Value) (r : Bool) (w0 w : World) (Z A : Mem) (hA : A.le Z) (hS : Sep w0 w [] Z) (hp0_0 : Rd Kd.u8 A p0_0 x0.Result.Val) (hp1_1 : Rd Kd.u8 A p1_1 x1.Result.Val)
    (H : mach_right_2.f x0 x1 = some r) :
    Calls Try.prog 97 [.agg (E93 x0 p0_0).toArray, .agg (E93 x1 p1_1).toArray].toArray w (Ret fun v w' => ∃ (N : Mem), v = .bool r ∧ Sep w0 w' [N] Z) := by
 unfold mach_right_2.f at H
 refine f_enter _ Try.func97 rfl Try.ntmps97 rfl fun a h=>?_
 replace h : Fr 10 a [(0, .agg (E93 x0 p0_0).toArray), (1, .agg (E93 x1 p1_1).toArray)] := h
 replace hS := hS.start
 refine qr <| v_box (vs := (E93 x0 p0_0)) h rfl rfl rfl hS fun w_1 g_1 hS' a h => ?_
 replace hS : Sep w0 w_1 [_, bx g_1 93 (E93 x0 p0_0)] Z := hS'
 refine v_box (vs := (E93 x1 p1_1)) h rfl rfl rfl hS fun w_2 g_2 hS' a h => ?_
 replace hS : Sep w0 w_2 [_, _, bx g_2 93 (E93 x1 p1_1)] Z := hS'
 refine sg h rfl fun a h=>nx <| qr <| s_fieldAddr h rfl U93 rfl ti3 rfl rfl fun a h=>s_load h rfl rfl (hS.load_one (p := 1) rfl U3 rfl rfl) fun a h=>s_fieldAddr h rfl U93 rfl ti3 rfl rfl fun a h=>s_load h rfl rfl (hS.load_one (p := 2) rfl U3 rfl rfl) fun a h=>s_cmp (b := decide (x0.Sess > x1.Sess)) h rfl rfl rfl (.inr (.inr (.inr (.inr (.inl ⟨rfl, rfl⟩))))) fun a h=>sg h rfl fun a h=>wpList_nil <| x_then_n ?_
 refine wp_ret ?_
 obtain rfl := Option.some.inj H
 exact r1 h 4 rfl rfl ⟨_, rfl, Mem.no, rfl, (hS.sel [0] (by decide))⟩

set_option maxHeartbeats 4000000 in
set_option maxRecDepth 20000 in
theorem bytes_Compare.calls (x0 : List UInt8) (p0_0 : Value) (x1 : List UInt8) (p1_1 : Value) (r : Int) (w0 w : World) (Z A : Mem) (hA : A.le Z) (hS : Sep w0 w [] Z) (hp0_0 : Rd Kd.u8 A p0_0 x0) (hp1_1 : Rd Kd.u8 A p1_1 x1)
    (H : bytes_Compare.f x0 x1 = some r) :
    Calls Try.prog 95 [p0_0, p1_1].toArray w (Ret fun v w' => ∃ (N : Mem), v = iV r ∧ Sep w0 w' [N] Z) := by
 unfold bytes_Compare.f at H
 refine f_enter _ Try.func95 rfl Try.ntmps95 rfl fun a h=>?_
 replace h : Fr 8 a [(0, p0_0), (1, p1_1)] := h
 replace hS := hS.start
 refine qr <| sg h rfl fun a h=>nx <| qr <| mv h rfl fun a h=>mv h rfl fun a h=>s_bcmp h rfl Try.func120 (by kernel_rfl) (by kernel_rfl) (by kernel_rfl) (by kernel_rfl) rfl rfl hp0_0 (hA.trans hS.old) hp1_1 (hA.trans hS.old) fun a h=>sg h rfl fun a h=>wpList_nil <| x_then_n ?_
 refine wp_ret ?_
 obtain rfl := Option.some.inj H
 exact r1 h 4 rfl rfl ⟨_, rfl, Mem.no, rfl, (hS.sel [0] (by decide))⟩

set_option maxHeartbeats 4000000 in
set_option maxRecDepth 20000 in
theorem mach_right_1.calls (x0 : api_Pair) (p0_0 : Value) (p0_1 : Value) (x1 : api_Pair) (p1_2 : Value) (p1_3 : Value) (r : Bool) (w0 w : World) (Z A : Mem) (hA : A.le Z) (hS : Sep w0 w [] Z) (hp0_0 : Rd Kd.u8 A p0_0 x0.Key) (hp0_1 : Rd Kd.u8 A p0_1 x0.Val) (hp1_2 : Rd Kd.u8 A p1_2 x1.Key) (hp1_3 : Rd Kd.u8 A p1_3 x1.Val)
    (H : mach_right_1.f x0 x1 = some r) :
    Calls Try.prog 94 [.agg ([p0_0, p0_1] : List Value).toArray, .agg ([p1_2, p1_3] : List Value).toArray].toArray w (Ret fun v w' => ∃ (N : Mem), v = .bool r ∧ Sep w0 w' [N] Z) := by
 unfold mach_right_1.f at H
 refine f_enter _ Try.func94 rfl Try.ntmps94 rfl fun a h=>?_
 replace h : Fr 11 a [(0, .agg ([p0_0, p0_1] : List Value).toArray), (1, .agg ([p1_2, p1_3] : List Value).toArray)] := h
 replace hS := hS.start
 refine qr <| v_box (vs := [p0_0, p0_1]) h rfl rfl rfl hS fun w_1 g_1 hS' a h => ?_
 replace hS : Sep w0 w_1 [_, bx g_1 88 [p0_0, p0_1]] Z := hS'
 refine v_box (vs := [p1_2, p1_3]) h rfl rfl rfl hS fun w_2 g_2 hS' a h => ?_
 replace hS : Sep w0 w_2 [_, _, bx g_2 88 [p1_2, p1_3]] Z := hS'
 refine sg h rfl fun a h=>nx <| qr <| s_fieldAddr h rfl U88 rfl ti22 rfl rfl fun a h=>s_load h rfl rfl (hS.load_one (p := 1) rfl U22 rfl rfl) fun a h=>s_fieldAddr h rfl U88 rfl ti22 rfl rfl fun a h=>s_load h rfl rfl (hS.load_one (p := 2) rfl U22 rfl rfl) fun a h=>?_
 obtain ⟨t_1, et_1, H⟩ := bs H
 refine s_call h rfl Try.call95 rfl (bytes_Compare.calls x0.Key _ x1.Key _ t_1 w0 _ _ _ mr (hS.enter [] (by decide)) (hp0_0.mono (hA.trans (hS.le_zed []))) (hp1_2.mono (hA.trans (hS.le_zed []))) et_1) ?_
 rintro _ w_3 ⟨N_1, rfl, hS'⟩
 intro a h
 obtain ⟨N_2, hS'', le_1, ln_1⟩ := hS.call [] (by decide) rfl (l' := []) (ow := []) rfl hS'
 replace hS : Sep w0 w_3 [N_2, _, _] Z := hS''
 refine s_cmp (b := decide (t_1 > 0)) h rfl rfl rfl (.inr (.inr (.inr (.inr (.inl ⟨rfl, rfl⟩))))) fun a h=>sg h rfl fun a h=>nx <| wp_ret ?_
 obtain rfl := Option.some.inj H
 exact r1 h 4 rfl rfl ⟨_, rfl, N_2, rfl, (hS.sel [0] (by decide))⟩

set_option maxHeartbeats 4000000 in
set_option maxRecDepth 20000 in
theorem mach_rising_hocket_api_Pair_94.calls (K : Nat) (x0 : List api_Pair) (p0_0 : Value) (r : Bool) (w0 w : World) (Z A : Mem) (hA : A.le Z) (hS : Sep w0 w [] Z) (hp0_0 : Rd k_api_Pair A p0_0 x0)
    (H : mach_rising_hocket_api_Pair_94.f K x0 = some r) :
    Calls Try.prog 93 [p0_0, .func (.func 94) #[] [].toArray].toArray w (Ret fun v w' => ∃ (N : Mem), v = .bool r ∧ Sep w0 w' [N] Z) := by
 unfold mach_rising_hocket_api_Pair_94.f at H
 refine f_enter _ Try.func93 rfl Try.ntmps93 rfl fun a h=>?_
 replace h : Fr 24 a [(0, p0_0), (1, .func (.func 94) #[] [].toArray)] := h
 replace hS := hS.start
 refine qr <| sg h rfl fun a h=>nx <| c_seq fun KJ_1 hKJ_1 => qr <| sg h rfl fun a h=>wpList_nil <| x_then_n ?_
 have hJ_j_1 : mach_rising_hocket_api_Pair_94.J1 K = some r → ∀ (a : Act) (w_1 : World), (∃ (N_1 : Mem), Fr 24 a [(4, .bool false)] ∧ Sep w0 w_1 [N_1] Z ∧ Mem.no.le N_1) → KJ_1 a w_1 := by
  clear H h hS a
  rintro H a w_1 ⟨N_1, h, hS, le_1⟩
  unfold mach_rising_hocket_api_Pair_94.J1 at H
  refine hKJ_1 _ _ <| qr <| sg h rfl fun a h=>nx <| wp_ret ?_
  obtain rfl := Option.some.inj H
  exact r1 h 4 rfl rfl ⟨_, rfl, N_1, rfl, (hS.sel [0] (by decide))⟩
 clear hKJ_1
 refine c_block <| c_loop (fun k_1 a w_2 => ∃ (x_1 : Int) (N_2 : Mem), mach_rising_hocket_api_Pair_94.L1 K x0 (fun v => mach_rising_hocket_api_Pair_94.J1 K) k_1 x_1 = some r ∧ Fr 24 a [(0, p0_0), (1, .func (.func 94) #[] [].toArray), (4, .bool false), (5, iV x_1)] ∧ Sep w0 w_2 [N_2] Z ∧ Mem.no.le N_2) K ⟨1, Mem.no, H, (h.to rfl), (hS.sel [0] (by decide)), mr⟩ (fun a w h => by obtain ⟨_, _, H, _⟩ := h; cases (show (none : Option (Bool)) = some r from H)) ?_
 clear h hS a H
 rintro k_1 a w_2 KL_1 hKL_1 ⟨x_1, N_2, H, h, hS, le_2⟩
 replace H : mach_rising_hocket_api_Pair_94.B1 K x0 (fun v => mach_rising_hocket_api_Pair_94.J1 K) (mach_rising_hocket_api_Pair_94.L1 K x0 (fun v => mach_rising_hocket_api_Pair_94.J1 K) k_1) x_1 = some r := H
 unfold mach_rising_hocket_api_Pair_94.B1 at H
 refine c_seq fun KJ_2 hKJ_2 => qr <| mv h rfl fun a h=>mv h rfl fun a h=>s_len h rfl U30 rfl hp0_0 fun a h=>s_cmp (b := decide (x_1 < (x0.length : Int))) h rfl rfl rfl (.inr (.inr (.inl ⟨rfl, rfl⟩))) fun a h=>wpList_nil <| x_then_n ?_
 obtain ⟨hc_1, H⟩ | ⟨hc_1, H⟩ := ii H
 ·refine c_cond_t h rfl (dt hc_1) <| wp_skip <| x_then_n (hKJ_2 _ _ ?_)
  refine c_seq fun KJ_3 hKJ_3 => c_block <| c_seq fun KJ_4 hKJ_4 => h_begin (S := fun w => Sep w0 w [N_2] Z) 12 (by kernel_rfl) rfl (bA 12 0) (by kernel_rfl) hS fun w_3 hS => ?_
  refine t_take 0 (bA 12 1) rfl rfl rfl rfl h (hS.sub .ii) (v := .func (.func 94) #[] [].toArray) (fun w hS => r_move h rfl) fun a h=>t_take 1 (bA 12 3) rfl rfl rfl rfl h (hS.sub .ii) (v := p0_0) (fun w hS => r_move h rfl) fun a h=>t_take 2 (bA 12 7) rfl rfl rfl rfl h (hS.sub .ii) (v := iV x_1) (fun w hS => r_move h rfl) fun a h=>?_
  obtain ⟨t_1, et_1, H⟩ := bs H
  refine t_takeE 3 (bA 12 15) rfl rfl rfl rfl h (hS.sub .ii) (f := fun ad => .pointer (some ad)) (r_index h U30 ti88 rfl rfl rfl hp0_0 et_1) ?_
  rintro ad_1 ⟨cs_1, hk_1, hc_2⟩
  obtain ⟨v_1, v_2, rfl, hr_1, hr_2⟩ := k_api_Pair.open' hk_1
  intro a h
  refine t_take 4 (bA 12 31) rfl rfl rfl rfl h (hS.sub .ii) (v := .agg ([v_1, v_2] : List Value).toArray) (fun w hS => r_load h rfl (el_agg (o := 0) (us := [v_1, v_2]) (fun j c h => Mem.cell_le (hA.trans hS.old) (hc_2 j c h)) U88 rfl ti88 rfl rfl)) fun a h=>t_take 5 (bA 12 63) rfl rfl rfl rfl h (hS.sub .ii) (v := p0_0) (fun w hS => r_move h rfl) fun a h=>t_take 6 (bA 12 127) rfl rfl rfl rfl h (hS.sub .ii) (v := iV x_1) (fun w hS => r_move h rfl) fun a h=>t_take 7 (bA 12 255) rfl rfl rfl rfl h (hS.sub .ii) (v := iV (w64 (x_1 - 1))) (fun w hS => r_arith (r := w64 (x_1 - 1)) h rfl rfl (.inr (.inl ⟨rfl, rfl⟩))) fun a h=>?_
  obtain ⟨t_2, et_2, H⟩ := bs H
  refine t_takeE 8 (bA 12 511) rfl rfl rfl rfl h (hS.sub .ii) (f := fun ad => .pointer (some ad)) (r_index h U30 ti88 rfl rfl rfl hp0_0 et_2) ?_
  rintro ad_2 ⟨cs_2, hk_2, hc_3⟩
  obtain ⟨v_3, v_4, rfl, hr_3, hr_4⟩ := k_api_Pair.open' hk_2
  intro a h
  refine t_take 9 (bA 12 1023) rfl rfl rfl rfl h (hS.sub .ii) (v := .agg ([v_3, v_4] : List Value).toArray) (fun w hS => r_load h rfl (el_agg (o := 0) (us := [v_3, v_4]) (fun j c h => Mem.cell_le (hA.trans hS.old) (hc_3 j c h)) U88 rfl ti88 rfl rfl)) fun a h=>h_event 10 (bA 12 2047) rfl (by kernel_rfl) (by kernel_rfl) ?_
  obtain ⟨t_3, et_3, H⟩ := bs H
  refine s_callv h rfl rfl Try.call94 rfl (mach_right_1.calls t_1 _ _ t_2 _ _ t_3 w0 _ _ _ mr (hS.enter [] (by decide)) (hr_1.mono (hA.trans (hS.le_zed []))) (hr_2.mono (hA.trans (hS.le_zed []))) (hr_3.mono (hA.trans (hS.le_zed []))) (hr_4.mono (hA.trans (hS.le_zed []))) et_3) ?_
  rintro _ w_4 ⟨N_3, rfl, hS'⟩
  intro a h
  obtain ⟨N_4, hS'', le_3, ln_1⟩ := hS.call [] (by decide) rfl (l' := []) (ow := []) rfl hS'
  replace hS : Sep w0 w_4 [N_4] Z := hS''
  refine ne (hS.sub (.cons le_3 .ii)) fun hs => ?_
  refine t_take 11 (bA 12 4095) rfl rfl rfl rfl h hs (v := .bool (!t_3)) (fun w hS => r_not h rfl) fun a h=>h_done (by kernel_rfl) ?_
  replace h : Fr 24 a [(0, _), (1, _), (4, _), (5, _), (23, .bool (!t_3))] := h.keep [0, 1, 4, 5, 23]
  refine x_then_n (hKJ_4 _ _ ?_)
  obtain ⟨hc_4, H⟩ | ⟨hc_4, H⟩ := ii H
  ·refine c_cond_f h rfl (nf hc_4) <| wp_skip <| x_block_n <| x_then_n (hKJ_3 _ _ ?_)
   refine wp_region_lit <| mv h rfl fun a h=>s_arith (r := w64 (x_1 + 1)) h rfl rfl rfl (.inl ⟨rfl, rfl⟩) fun a h=>sg h rfl fun a h=>wpList_nil <| x_then_n (hKL_1 _ _ ?_)
   exact ⟨w64 (x_1 + 1), N_4, H, (h.to rfl), (hS.sel [0] (by decide)), (le_2.trans le_3)⟩
  ·refine c_cond_t h rfl (nt (ef hc_4)) <| qr <| sg h rfl fun a h=>nx <| wp_ret (x_block_r (x_then_r (x_then_r (x_block_r (x_then_r ?_)))))
   obtain rfl := Option.some.inj H
   exact r1 h 4 rfl rfl ⟨_, rfl, N_4, rfl, (hS.sel [0] (by decide))⟩
 ·refine c_cond_f h rfl (df hc_1) <| wp_exit (x_then_x (x_then_x (x_block_t ?_)))
  exact x_then_n (hJ_j_1  H _ _ ⟨N_2, (h.to rfl), (hS.sel [0] (by decide)), le_2⟩)

set_option maxHeartbeats 4000000 in
set_option maxRecDepth 20000 in
theorem mach_rising_hocket_api_Last_97.calls (K : Nat) (x0 : List api_Last) (p0_0 : Value) (r : Bool) (w0 w : World) (Z A : Mem) (hA : A.le Z) (hS : Sep w0 w [] Z) (hp0_0 : Rd k_api_Last A p0_0 x0)
    (H : mach_rising_hocket_api_Last_97.f K x0 = some r) :
    Calls Try.prog 96 [p0_0, .func (.func 97) #[] [].toArray].toArray w (Ret fun v w' => ∃ (N : Mem), v = .bool r ∧ Sep w0 w' [N] Z) := by
 unfold mach_rising_hocket_api_Last_97.f at H
 refine f_enter _ Try.func96 rfl Try.ntmps96 rfl fun a h=>?_
 replace h : Fr 24 a [(0, p0_0), (1, .func (.func 97) #[] [].toArray)] := h
 replace hS := hS.start
 refine qr <| sg h rfl fun a h=>nx <| c_seq fun KJ_1 hKJ_1 => qr <| sg h rfl fun a h=>wpList_nil <| x_then_n ?_
 have hJ_j_1 : mach_rising_hocket_api_Last_97.J1 K = some r → ∀ (a : Act) (w_1 : World), (∃ (N_1 : Mem), Fr 24 a [(4, .bool false)] ∧ Sep w0 w_1 [N_1] Z ∧ Mem.no.le N_1) → KJ_1 a w_1 := by
  clear H h hS a
  rintro H a w_1 ⟨N_1, h, hS, le_1⟩
  unfold mach_rising_hocket_api_Last_97.J1 at H
  refine hKJ_1 _ _ <| qr <| sg h rfl fun a h=>nx <| wp_ret ?_
  obtain rfl := Option.some.inj H
  exact r1 h 4 rfl rfl ⟨_, rfl, N_1, rfl, (hS.sel [0] (by decide))⟩
 clear hKJ_1
 refine c_block <| c_loop (fun k_1 a w_2 => ∃ (x_1 : Int) (N_2 : Mem), mach_rising_hocket_api_Last_97.L1 K x0 (fun v => mach_rising_hocket_api_Last_97.J1 K) k_1 x_1 = some r ∧ Fr 24 a [(0, p0_0), (1, .func (.func 97) #[] [].toArray), (4, .bool false), (5, iV x_1)] ∧ Sep w0 w_2 [N_2] Z ∧ Mem.no.le N_2) K ⟨1, Mem.no, H, (h.to rfl), (hS.sel [0] (by decide)), mr⟩ (fun a w h => by obtain ⟨_, _, H, _⟩ := h; cases (show (none : Option (Bool)) = some r from H)) ?_
 clear h hS a H
 rintro k_1 a w_2 KL_1 hKL_1 ⟨x_1, N_2, H, h, hS, le_2⟩
 replace H : mach_rising_hocket_api_Last_97.B1 K x0 (fun v => mach_rising_hocket_api_Last_97.J1 K) (mach_rising_hocket_api_Last_97.L1 K x0 (fun v => mach_rising_hocket_api_Last_97.J1 K) k_1) x_1 = some r := H
 unfold mach_rising_hocket_api_Last_97.B1 at H
 refine c_seq fun KJ_2 hKJ_2 => qr <| mv h rfl fun a h=>mv h rfl fun a h=>s_len h rfl U33 rfl hp0_0 fun a h=>s_cmp (b := decide (x_1 < (x0.length : Int))) h rfl rfl rfl (.inr (.inr (.inl ⟨rfl, rfl⟩))) fun a h=>wpList_nil <| x_then_n ?_
 obtain ⟨hc_1, H⟩ | ⟨hc_1, H⟩ := ii H
 ·refine c_cond_t h rfl (dt hc_1) <| wp_skip <| x_then_n (hKJ_2 _ _ ?_)
  refine c_seq fun KJ_3 hKJ_3 => c_block <| c_seq fun KJ_4 hKJ_4 => h_begin (S := fun w => Sep w0 w [N_2] Z) 12 (by kernel_rfl) rfl (bA 12 0) (by kernel_rfl) hS fun w_3 hS => ?_
  refine t_take 0 (bA 12 1) rfl rfl rfl rfl h (hS.sub .ii) (v := .func (.func 97) #[] [].toArray) (fun w hS => r_move h rfl) fun a h=>t_take 1 (bA 12 3) rfl rfl rfl rfl h (hS.sub .ii) (v := p0_0) (fun w hS => r_move h rfl) fun a h=>t_take 2 (bA 12 7) rfl rfl rfl rfl h (hS.sub .ii) (v := iV x_1) (fun w hS => r_move h rfl) fun a h=>?_
  obtain ⟨t_1, et_1, H⟩ := bs H
  refine t_takeE 3 (bA 12 15) rfl rfl rfl rfl h (hS.sub .ii) (f := fun ad => .pointer (some ad)) (r_index h U33 ti93 rfl rfl rfl hp0_0 et_1) ?_
  rintro ad_1 ⟨cs_1, hk_1, hc_2⟩
  obtain ⟨v_1, rfl, hr_1⟩ := k_api_Last.open' hk_1
  intro a h
  refine t_take 4 (bA 12 31) rfl rfl rfl rfl h (hS.sub .ii) (v := .agg (E93 t_1 v_1).toArray) (fun w hS => r_load h rfl (el_agg (o := 0) (us := (E93 t_1 v_1)) (fun j c h => Mem.cell_le (hA.trans hS.old) (hc_2 j c h)) U93 rfl ti93 rfl rfl)) fun a h=>t_take 5 (bA 12 63) rfl rfl rfl rfl h (hS.sub .ii) (v := p0_0) (fun w hS => r_move h rfl) fun a h=>t_take 6 (bA 12 127) rfl rfl rfl rfl h (hS.sub .ii) (v := iV x_1) (fun w hS => r_move h rfl) fun a h=>t_take 7 (bA 12 255) rfl rfl rfl rfl h (hS.sub .ii) (v := iV (w64 (x_1 - 1))) (fun w hS => r_arith (r := w64 (x_1 - 1)) h rfl rfl (.inr (.inl ⟨rfl, rfl⟩))) fun a h=>?_
  obtain ⟨t_2, et_2, H⟩ := bs H
  refine t_takeE 8 (bA 12 511) rfl rfl rfl rfl h (hS.sub .ii) (f := fun ad => .pointer (some ad)) (r_index h U33 ti93 rfl rfl rfl hp0_0 et_2) ?_
  rintro ad_2 ⟨cs_2, hk_2, hc_3⟩
  obtain ⟨v_2, rfl, hr_2⟩ := k_api_Last.open' hk_2
  intro a h
  refine t_take 9 (bA 12 1023) rfl rfl rfl rfl h (hS.sub .ii) (v := .agg (E93 t_2 v_2).toArray) (fun w hS => r_load h rfl (el_agg (o := 0) (us := (E93 t_2 v_2)) (fun j c h => Mem.cell_le (hA.trans hS.old) (hc_3 j c h)) U93 rfl ti93 rfl rfl)) fun a h=>h_event 10 (bA 12 2047) rfl (by kernel_rfl) (by kernel_rfl) ?_
  obtain ⟨t_3, et_3, H⟩ := bs H
  refine s_callv h rfl rfl Try.call97 rfl (mach_right_2.calls t_1 _ t_2 _ t_3 w0 _ _ _ mr (hS.enter [] (by decide)) (hr_1.mono (hA.trans (hS.le_zed []))) (hr_2.mono (hA.trans (hS.le_zed []))) et_3) ?_
  rintro _ w_4 ⟨N_3, rfl, hS'⟩
  intro a h
  obtain ⟨N_4, hS'', le_3, ln_1⟩ := hS.call [] (by decide) rfl (l' := []) (ow := []) rfl hS'
  replace hS : Sep w0 w_4 [N_4] Z := hS''
  refine ne (hS.sub (.cons le_3 .ii)) fun hs => ?_
  refine t_take 11 (bA 12 4095) rfl rfl rfl rfl h hs (v := .bool (!t_3)) (fun w hS => r_not h rfl) fun a h=>h_done (by kernel_rfl) ?_
  replace h : Fr 24 a [(0, _), (1, _), (4, _), (5, _), (23, .bool (!t_3))] := h.keep [0, 1, 4, 5, 23]
  refine x_then_n (hKJ_4 _ _ ?_)
  obtain ⟨hc_4, H⟩ | ⟨hc_4, H⟩ := ii H
  ·refine c_cond_f h rfl (nf hc_4) <| wp_skip <| x_block_n <| x_then_n (hKJ_3 _ _ ?_)
   refine wp_region_lit <| mv h rfl fun a h=>s_arith (r := w64 (x_1 + 1)) h rfl rfl rfl (.inl ⟨rfl, rfl⟩) fun a h=>sg h rfl fun a h=>wpList_nil <| x_then_n (hKL_1 _ _ ?_)
   exact ⟨w64 (x_1 + 1), N_4, H, (h.to rfl), (hS.sel [0] (by decide)), (le_2.trans le_3)⟩
  ·refine c_cond_t h rfl (nt (ef hc_4)) <| qr <| sg h rfl fun a h=>nx <| wp_ret (x_block_r (x_then_r (x_then_r (x_block_r (x_then_r ?_)))))
   obtain rfl := Option.some.inj H
   exact r1 h 4 rfl rfl ⟨_, rfl, N_4, rfl, (hS.sel [0] (by decide))⟩
 ·refine c_cond_f h rfl (df hc_1) <| wp_exit (x_then_x (x_then_x (x_block_t ?_)))
  exact x_then_n (hJ_j_1  H _ _ ⟨N_2, (h.to rfl), (hS.sel [0] (by decide)), le_2⟩)

set_option maxHeartbeats 4000000 in
set_option maxRecDepth 20000 in
theorem mach_right.calls (K : Nat) (x0 : api_Machine) (p0_0 : Value) (p0_1 : Value) (p0_2 : Value) (p0_3 : Value) (p0_4 : Value) (r : Bool) (w0 w : World) (Z A : Mem) (hA : A.le Z) (hS : Sep w0 w [] Z) (hp0_0 : Rd Kd.u8 A p0_0 x0.Objects.Reg) (hp0_1 : Rd (Kd.slice Kd.u8) A p0_1 x0.Objects.Queue) (hp0_2 : Rd (Kd.int .i64) A p0_2 x0.Objects.Lock) (hp0_3 : Rd k_api_Pair A p0_3 x0.Objects.Map) (hp0_4 : Rd k_api_Last A p0_4 x0.Table)
    (H : mach_right.f K x0 = some r) :
    Calls Try.prog 77 [.agg ([p0_0, p0_1, p0_2, p0_3, p0_4] : List Value).toArray].toArray w (Ret fun v w' => ∃ (N : Mem), v = .bool r ∧ Sep w0 w' [N] Z) := by
 unfold mach_right.f at H
 refine f_enter _ Try.func77 rfl Try.ntmps77 rfl fun a h=>?_
 replace h : Fr 51 a [(0, .agg ([p0_0, p0_1, p0_2, p0_3, p0_4] : List Value).toArray)] := h
 replace hS := hS.start
 refine qr <| v_box (vs := [p0_0, p0_1, p0_2, p0_3, p0_4]) h rfl rfl rfl hS fun w_1 g_1 hS' a h => ?_
 replace hS : Sep w0 w_1 [_, bx g_1 35 [p0_0, p0_1, p0_2, p0_3, p0_4]] Z := hS'
 refine sg h rfl fun a h=>nx <| c_seq fun KJ_1 hKJ_1 => qr <| s_fieldAddr h rfl U35 rfl ti32 rfl rfl fun a h=>s_fieldAddr h rfl U32 rfl ti29 rfl rfl fun a h=>s_load h rfl rfl (hS.load_one (p := 1) rfl U29 rfl rfl) fun a h=>s_len h rfl U29 rfl hp0_2 fun a h=>mv h rfl fun a h=>wpList_nil <| x_then_n ?_
 have hJ_j_1 : mach_right.J1 K x0 = some r → ∀ (a : Act) (w_2 : World), (∃ (N_1 : Mem), Fr 51 a [(1, .pointer (some ⟨g_1, 0, none⟩)), (2, .bool false)] ∧ Sep w0 w_2 [N_1, bx g_1 35 [p0_0, p0_1, p0_2, p0_3, p0_4]] Z ∧ Mem.no.le N_1) → KJ_1 a w_2 := by
  clear H h hS a
  rintro H a w_2 ⟨N_1, h, hS, le_1⟩
  unfold mach_right.J1 at H
  refine hKJ_1 _ _ <| c_seq fun KJ_2 hKJ_2 => qr <| s_fieldAddr h rfl U35 rfl ti33 rfl rfl fun a h=>s_load h rfl rfl (hS.load_one (p := 1) rfl U33 rfl rfl) fun a h=>s_len h rfl U33 rfl hp0_4 fun a h=>mv h rfl fun a h=>wpList_nil <| x_then_n ?_
  have hJ_j_2 : mach_right.J2 K x0 = some r → ∀ (a : Act) (w_3 : World), (∃ (N_2 : Mem), Fr 51 a [(1, .pointer (some ⟨g_1, 0, none⟩)), (2, .bool false)] ∧ Sep w0 w_3 [N_2, bx g_1 35 [p0_0, p0_1, p0_2, p0_3, p0_4]] Z ∧ N_1.le N_2) → KJ_2 a w_3 := by
   clear H h hS a
   rintro H a w_3 ⟨N_2, h, hS, le_2⟩
   unfold mach_right.J2 at H
   refine hKJ_2 _ _ <| qr <| s_fieldAddr h rfl U35 rfl ti32 rfl rfl fun a h=>s_fieldAddr h rfl U32 rfl ti30 rfl rfl fun a h=>s_load h rfl rfl (hS.load_one (p := 1) rfl U30 rfl rfl) fun a h=>?_
   obtain ⟨t_1, et_1, H⟩ := bs H
   refine s_call h rfl Try.call93 rfl (mach_rising_hocket_api_Pair_94.calls K x0.Objects.Map _ t_1 w0 _ _ _ mr (hS.enter [] (by decide)) (hp0_3.mono (hA.trans (hS.le_zed []))) et_1) ?_
   rintro _ w_4 ⟨N_3, rfl, hS'⟩
   intro a h
   obtain ⟨N_4, hS'', le_3, ln_1⟩ := hS.call [] (by decide) rfl (l' := []) (ow := []) rfl hS'
   replace hS : Sep w0 w_4 [N_4, _] Z := hS''
   refine sg h rfl fun a h=>wpList_nil ?_
   replace h : Fr 51 a [(1, _), (2, _), (7, .bool t_1)] := h.keep [1, 2, 7]
   refine x_then_n <| c_seq fun KJ_3 hKJ_3 => wp_region_lit <| mv h rfl fun a h=>mv h rfl fun a h=>?_
   obtain ⟨hc_1, H⟩ | ⟨hc_1, H⟩ := ii H
   ·refine s_on h rfl rfl hc_1 <| s_fieldAddr h rfl U35 rfl ti33 rfl rfl fun a h=>s_on h rfl rfl hc_1 <| s_load h rfl rfl (hS.load_one (p := 1) rfl U33 rfl rfl) fun a h=>s_on h rfl rfl hc_1 ?_
    obtain ⟨t_2, et_2, H⟩ := bs H
    refine s_call h rfl Try.call96 rfl (mach_rising_hocket_api_Last_97.calls K x0.Table _ t_2 w0 _ _ _ mr (hS.enter [] (by decide)) (hp0_4.mono (hA.trans (hS.le_zed []))) et_2) ?_
    rintro _ w_5 ⟨N_5, rfl, hS'⟩
    intro a h
    obtain ⟨N_6, hS'', le_4, ln_2⟩ := hS.call [] (by decide) rfl (l' := []) (ow := []) rfl hS'
    replace hS : Sep w0 w_5 [N_6, _] Z := hS''
    refine pt h rfl hc_1 fun a h=>sg h rfl fun a h=>wpList_nil <| x_then_n (hKJ_3 _ _ ?_)
    refine wp_ret ?_
    obtain rfl := Option.some.inj H
    exact r1 h 2 rfl rfl ⟨_, rfl, N_6, rfl, (hS.sel [0] (by decide))⟩
   ·refine of h rfl rfl (ef hc_1) fun a h=>of h rfl rfl (ef hc_1) fun a h=>of h rfl rfl (ef hc_1) fun a h=>pf h rfl (ef hc_1) fun a h=>sg h rfl fun a h=>wpList_nil <| x_then_n (hKJ_3 _ _ ?_)
    refine wp_ret ?_
    obtain rfl := Option.some.inj H
    exact r1 h 2 rfl rfl ⟨_, rfl, N_4, rfl, (hS.sel [0] (by decide))⟩
  clear hKJ_2
  refine c_block <| c_loop (fun k_1 a w_6 => ∃ (x_1 : Int) (N_7 : Mem), mach_right.L1 K x0 (fun v => mach_right.J2 K x0) k_1 x_1 = some r ∧ Fr 51 a [(1, .pointer (some ⟨g_1, 0, none⟩)), (2, .bool false), (26, p0_4), (27, iV (x0.Table.length : Int)), (28, iV x_1)] ∧ Sep w0 w_6 [N_7, bx g_1 35 [p0_0, p0_1, p0_2, p0_3, p0_4]] Z ∧ N_1.le N_7) K ⟨0, N_1, H, (h.to rfl), (hS.sel [0, 1] (by decide)), mr⟩ (fun a w h => by obtain ⟨_, _, H, _⟩ := h; cases (show (none : Option (Bool)) = some r from H)) ?_
  clear h hS a H
  rintro k_1 a w_6 KL_1 hKL_1 ⟨x_1, N_7, H, h, hS, le_5⟩
  replace H : mach_right.B1 K x0 (fun v => mach_right.J2 K x0) (mach_right.L1 K x0 (fun v => mach_right.J2 K x0) k_1) x_1 = some r := H
  unfold mach_right.B1 at H
  refine qr <| s_cmp (b := decide (x_1 < (x0.Table.length : Int))) h rfl rfl rfl (.inr (.inr (.inl ⟨rfl, rfl⟩))) fun a h=>wpList_nil ?_
  replace h : Fr 51 a [(1, _), (2, _), (26, _), (27, _), (28, _), (29, .bool (decide (x_1 < (x0.Table.length : Int))))] := h.keep [1, 2, 26, 27, 28, 29]
  refine x_then_n <| c_seq fun KJ_4 hKJ_4 => ?_
  obtain ⟨hc_2, H⟩ | ⟨hc_2, H⟩ := ii H
  ·refine c_cond_t h rfl (dt hc_2) <| wp_skip <| x_then_n (hKJ_4 _ _ ?_)
   refine c_seq fun KJ_5 hKJ_5 => c_block <| wp_seq <| wp_region_lit ?_
   obtain ⟨t_3, et_3, H⟩ := bs H
   refine v_index h rfl U33 ti93 rfl rfl rfl hp0_4 (hA.trans hS.old) et_3 fun ad_1 cs_1 hk_1 hc_3 => ?_
   obtain ⟨v_1, rfl, hr_1⟩ := k_api_Last.open' hk_1
   intro a h
   refine s_load h rfl rfl (el_agg (o := 0) (us := (E93 t_3 v_1)) hc_3 U93 rfl ti93 rfl rfl) fun a h=>v_alloc h rfl ti93 hS fun w_7 g_2 hS' a h => ?_
   replace hS : Sep w0 w_7 [_, _, bx g_2 93 [iV 0, iV 0, iV 0, nS, iV 0]] Z := hS'
   refine sto 2 h rfl rfl hS rfl ti93 rfl rfl rfl (oa 3 rfl (oc hr_1.one (oz rfl))) fun w_8 hS' => ?_
   replace hS : Sep w0 w_8 [_, _, bx g_2 93 (E93 t_3 v_1)] Z := hS'
   refine nx <| c_seq fun KJ_6 hKJ_6 => wp_region_lit <| s_fieldAddr h rfl U93 rfl ti3 rfl rfl fun a h=>s_load h rfl rfl (hS.load_one (p := 2) rfl U3 rfl rfl) fun a h=>s_cmp (b := decide (t_3.Sess < 1)) h rfl rfl rfl (.inr (.inr (.inl ⟨rfl, rfl⟩))) fun a h=>mv h rfl fun a h=>?_
   obtain ⟨hc_4, H⟩ | ⟨hc_4, H⟩ := ii H
   ·refine of h rfl rfl (dt hc_4) fun a h=>of h rfl rfl (dt hc_4) fun a h=>of h rfl rfl (dt hc_4) fun a h=>pt h rfl (dt hc_4) fun a h=>wpList_nil <| x_then_n (hKJ_6 _ _ ?_)
    refine c_cond_t h rfl rfl <| qr <| sg h rfl fun a h=>nx <| wp_ret (x_block_r (x_then_r (x_then_r (x_block_r (x_then_r ?_)))))
    obtain rfl := Option.some.inj H
    exact r1 h 2 rfl rfl ⟨_, rfl, N_7, rfl, (hS.sel [0] (by decide))⟩
   ·refine s_on h rfl rfl (df hc_4) <| s_fieldAddr h rfl U93 rfl ti3 rfl rfl fun a h=>s_on h rfl rfl (df hc_4) <| s_load h rfl rfl (hS.load_one (p := 2) rfl U3 rfl rfl) fun a h=>s_on h rfl rfl (df hc_4) <| s_cmp (b := decide (t_3.Seq < 1)) h rfl rfl rfl (.inr (.inr (.inl ⟨rfl, rfl⟩))) fun a h=>pf h rfl (df hc_4) fun a h=>wpList_nil <| x_then_n (hKJ_6 _ _ ?_)
    obtain ⟨hc_5, H⟩ | ⟨hc_5, H⟩ := ii H
    ·refine c_cond_t h rfl (dt hc_5) <| qr <| sg h rfl fun a h=>nx <| wp_ret (x_block_r (x_then_r (x_then_r (x_block_r (x_then_r ?_)))))
     obtain rfl := Option.some.inj H
     exact r1 h 2 rfl rfl ⟨_, rfl, N_7, rfl, (hS.sel [0] (by decide))⟩
    ·refine c_cond_f h rfl (df hc_5) <| wp_skip <| x_block_n <| x_then_n (hKJ_5 _ _ ?_)
     refine wp_region_lit <| s_arith (r := w64 (x_1 + 1)) h rfl rfl rfl (.inl ⟨rfl, rfl⟩) fun a h=>mv h rfl fun a h=>wpList_nil <| x_then_n (hKL_1 _ _ ?_)
     exact ⟨w64 (x_1 + 1), N_7, H, (h.to rfl), (hS.sel [0, 1] (by decide)), le_5⟩
  ·refine c_cond_f h rfl (df hc_2) <| wp_exit (x_then_x (x_then_x (x_block_t ?_)))
   exact x_then_n (hJ_j_2  H _ _ ⟨N_7, (h.to rfl), (hS.sel [0, 1] (by decide)), le_5⟩)
 clear hKJ_1
 refine c_block <| c_loop (fun k_2 a w_9 => ∃ (x_2 : Int) (N_8 : Mem), mach_right.L2 K x0 (fun v => mach_right.J1 K x0) k_2 x_2 = some r ∧ Fr 51 a [(1, .pointer (some ⟨g_1, 0, none⟩)), (2, .bool false), (10, p0_2), (11, iV (x0.Objects.Lock.length : Int)), (12, iV x_2)] ∧ Sep w0 w_9 [N_8, bx g_1 35 [p0_0, p0_1, p0_2, p0_3, p0_4]] Z ∧ Mem.no.le N_8) K ⟨0, Mem.no, H, (h.to rfl), (hS.sel [0, 1] (by decide)), mr⟩ (fun a w h => by obtain ⟨_, _, H, _⟩ := h; cases (show (none : Option (Bool)) = some r from H)) ?_
 clear h hS a H
 rintro k_2 a w_9 KL_2 hKL_2 ⟨x_2, N_8, H, h, hS, le_6⟩
 replace H : mach_right.B2 K x0 (fun v => mach_right.J1 K x0) (mach_right.L2 K x0 (fun v => mach_right.J1 K x0) k_2) x_2 = some r := H
 unfold mach_right.B2 at H
 refine qr <| s_cmp (b := decide (x_2 < (x0.Objects.Lock.length : Int))) h rfl rfl rfl (.inr (.inr (.inl ⟨rfl, rfl⟩))) fun a h=>nx <| c_seq fun KJ_7 hKJ_7 => ?_
 obtain ⟨hc_6, H⟩ | ⟨hc_6, H⟩ := ii H
 ·refine c_cond_t h rfl (dt hc_6) <| wp_skip <| x_then_n (hKJ_7 _ _ ?_)
  refine c_seq fun KJ_8 hKJ_8 => c_block <| qr <| mv h rfl fun a h=>?_
  obtain ⟨t_4, et_4, H⟩ := bs H
  refine v_index h rfl U29 ti3 rfl rfl rfl hp0_2 (hA.trans hS.old) et_4 fun ad_2 cs_2 hk_2 hc_7 => ?_
  obtain rfl := (show cs_2 = [iV t_4] from hk_2)
  intro a h
  refine s_load h rfl rfl (el_one (o := 0) hc_7 U3 rfl rfl) fun a h=>sg h rfl fun a h=>sg h rfl fun a h=>wpList_nil ?_
  replace h : Fr 51 a [(1, _), (2, _), (3, iV x_2), (4, iV t_4), (10, _), (11, _), (12, _)] := h.keep [1, 2, 3, 4, 10, 11, 12]
  refine x_then_n <| qr <| s_fieldAddr h rfl U35 rfl ti32 rfl rfl fun a h=>s_fieldAddr h rfl U32 rfl ti29 rfl rfl fun a h=>s_load h rfl rfl (hS.load_one (p := 1) rfl U29 rfl rfl) fun a h=>mv h rfl fun a h=>?_
  obtain ⟨t_5, et_5, H⟩ := bs H
  refine s_slice h rfl U29 ti3 rfl rfl hp0_2 rfl rfl et_5 fun v_2 hr_2 a h => mv h rfl fun a h=>?_
  obtain ⟨t_6, et_6, H⟩ := bs H
  refine s_call h rfl Try.call92 rfl (slices_Contains_sint_int.calls K t_5 _ t_4 t_6 w0 _ _ _ mr (hS.enter [] (by decide)) (hr_2.mono (hA.trans (hS.le_zed []))) et_6) ?_
  rintro _ w_10 ⟨N_9, rfl, hS'⟩
  intro a h
  obtain ⟨N_10, hS'', le_7, ln_3⟩ := hS.call [] (by decide) rfl (l' := []) (ow := []) rfl hS'
  replace hS : Sep w0 w_10 [N_10, _] Z := hS''
  refine wpList_nil <| x_then_n ?_
  obtain ⟨hc_8, H⟩ | ⟨hc_8, H⟩ := ii H
  ·refine c_cond_t h rfl hc_8 <| qr <| sg h rfl fun a h=>nx <| wp_ret (x_block_r (x_then_r (x_then_r (x_block_r (x_then_r ?_)))))
   obtain rfl := Option.some.inj H
   exact r1 h 2 rfl rfl ⟨_, rfl, N_10, rfl, (hS.sel [0] (by decide))⟩
  ·refine c_cond_f h rfl (ef hc_8) <| wp_skip <| x_block_n <| x_then_n (hKJ_8 _ _ ?_)
   refine wp_region_lit <| s_arith (r := w64 (x_2 + 1)) h rfl rfl rfl (.inl ⟨rfl, rfl⟩) fun a h=>mv h rfl fun a h=>wpList_nil <| x_then_n (hKL_2 _ _ ?_)
   exact ⟨w64 (x_2 + 1), N_10, H, (h.to rfl), (hS.sel [0, 1] (by decide)), (le_6.trans le_7)⟩
 ·refine c_cond_f h rfl (df hc_6) <| wp_exit (x_then_x (x_then_x (x_block_t ?_)))
  exact x_then_n (hJ_j_1  H _ _ ⟨N_8, (h.to rfl), (hS.sel [0, 1] (by decide)), le_6⟩)

set_option maxHeartbeats 4000000 in
set_option maxRecDepth 20000 in
theorem mach_Decode.calls (K : Nat) (x0 : List UInt8) (p0_0 : Value) (r : api_Machine × Bool) (w0 w : World) (Z A : Mem) (hA : A.le Z) (hS : Sep w0 w [] Z) (hp0_0 : Rd Kd.u8 A p0_0 x0)
    (H : mach_Decode.f K x0 = some r) :
    Calls Try.prog 56 [p0_0].toArray w (Ret fun v w' => ∃ (u0 : Value) (u1 : Value) (u2 : Value) (u3 : Value) (u4 : Value) (N : Mem) (M0 : Mem) (M1 : Mem) (M2 : Mem) (M3 : Mem) (M4 : Mem), v = .tuple [.agg [u0, u1, u2, u3, u4].toArray, .bool r.2].toArray ∧ Sep w0 w' [N, M0, M1, M2, M3, M4] Z ∧ Own Kd.u8 5 M0 Mem.no u0 r.1.Objects.Reg ∧ Own (Kd.slice Kd.u8) 22 M1 N u1 r.1.Objects.Queue ∧ Own (Kd.int .i64) 3 M2 Mem.no u2 r.1.Objects.Lock ∧ Own k_api_Pair 88 M3 N u3 r.1.Objects.Map ∧ Own k_api_Last 93 M4 N u4 r.1.Table) := by
 unfold mach_Decode.f at H
 refine f_enter _ Try.func56 rfl Try.ntmps56 rfl fun a h=>?_
 replace h : Fr 20 a [(0, p0_0)] := h
 replace hS := hS.start
 refine qr <| v_alloc h rfl ti35 hS fun w_1 g_1 hS' a h => ?_
 replace hS : Sep w0 w_1 [_, bx g_1 35 [nS, nS, nS, nS, nS]] Z := hS'
 refine sg h rfl fun a h=>nx <| qr <| mv h rfl fun a h=>?_
 obtain ⟨t_1, et_1, H⟩ := bs H
 refine s_call h rfl Try.call54 rfl (pack_Read.calls x0 _ t_1 w0 _ _ _ mr (hS.enter [] (by decide)) (hp0_0.mono (hA.trans (hS.le_zed []))) et_1) ?_
 rintro _ w_2 ⟨g_2, v_1, N_1, rfl, hS', hr_1⟩
 intro a h
 obtain ⟨N_2, hS'', le_1, ln_1⟩ := hS.call [] (by decide) rfl (l' := []) (ow := [_]) rfl hS'
 replace hS : Sep w0 w_2 [N_2, _, _] Z := hS''
 refine sg h rfl fun a h=>nx <| qr <| mv h rfl fun a h=>?_
 obtain ⟨t_2, et_2, H⟩ := bs H
 refine s_call h rfl Try.call76 rfl (mach_read.calls K _ t_1.1 _ t_1.2 t_2 w0 _ _ N_2 (hS.new_zed [1]) (hS.enter [1] (by decide)) (hr_1.mono ln_1) et_2) ?_
 rintro _ w_3 ⟨v_2, v_3, v_4, v_5, v_6, v_7, N_3, M_1, M_2, M_3, M_4, M_5, rfl, hS', hr_2, hr_3, hr_4, hr_5, hr_6, hr_7⟩
 intro a h
 obtain ⟨N_4, hS'', le_2, ln_2⟩ := hS.call [1] (by decide) rfl (l' := [_]) (ow := [_, _, _, _, _]) rfl hS'
 replace hS : Sep w0 w_3 [N_4, _, _, _, _, _, _, _] Z := hS''
 refine v_alloc h rfl ti35 hS fun w_4 g_3 hS' a h => ?_
 replace hS : Sep w0 w_4 [_, _, _, _, _, _, _, _, bx g_3 35 [nS, nS, nS, nS, nS]] Z := hS'
 refine sto 8 h rfl rfl hS rfl ti35 rfl rfl rfl (oc hr_2.one (oc (hr_3.mono ln_2).one (oc hr_4.one (oc (hr_5.mono ln_2).one (oc (hr_6.mono ln_2).one on0))))) fun w_5 hS' => ?_
 replace hS : Sep w0 w_5 [_, _, _, _, _, _, _, _, bx g_3 35 [v_2, v_3, v_4, v_5, v_6]] Z := hS'
 refine nx <| c_seq fun KJ_1 hKJ_1 => c_seq fun KJ_2 hKJ_2 => ?_
 have hJ_j_1 : ∀ (x_1 : Bool), mach_Decode.J1 K t_2 x_1 = some r → ∀ (a : Act) (w_6 : World), (∃ (N_5 : Mem), Fr 20 a [(2, .pointer (some ⟨g_1, 0, none⟩)), (3, .bool false), (5, .pointer (some ⟨g_3, 0, none⟩)), (17, .bool x_1)] ∧ Sep w0 w_6 [N_5, bx g_1 35 [nS, nS, nS, nS, nS], Mem.no, M_1, M_2, M_3, M_4, M_5, bx g_3 35 [v_2, v_3, v_4, v_5, v_6]] Z ∧ N_4.le N_5) → KJ_2 a w_6 := by
  clear H h hS a
  rintro x_1 H a w_6 ⟨N_5, h, hS, le_3⟩
  unfold mach_Decode.J1 at H
  refine hKJ_2 _ _ ?_
  obtain ⟨hc_1, H⟩ | ⟨hc_1, H⟩ := ii H
  ·refine c_cond_t h rfl hc_1 <| qr <| s_build h rfl ti35 pl35 rfl .nil (cs := [nS, nS, nS, nS, nS]) (by kernel_rfl) fun a h=>?_
   refine sto 1 h rfl rfl hS rfl ti35 rfl rfl rfl (oz rfl) fun w_7 hS' => ?_
   replace hS : Sep w0 w_7 [_, _, _, _, _, _, _, _, _] Z := hS'
   refine sg h rfl fun a h=>wpList_nil ?_
   replace h : Fr 20 a [(2, _), (3, _), (5, _)] := h.keep [2, 3, 5]
   refine x_then_n <| wp_ret (x_then_r ?_)
   have hS' := hS.room
   replace hS : Sep w0 w_7 [_, _, _, _, _, _, _, _, _, Mem.no] Z := hS'
   have hS' := hS.room
   replace hS : Sep w0 w_7 [_, _, _, _, _, _, _, _, _, _, Mem.no] Z := hS'
   have hS' := hS.room
   replace hS : Sep w0 w_7 [_, _, _, _, _, _, _, _, _, _, _, Mem.no] Z := hS'
   have hS' := hS.room
   replace hS : Sep w0 w_7 [_, _, _, _, _, _, _, _, _, _, _, _, Mem.no] Z := hS'
   have hS' := hS.room
   replace hS : Sep w0 w_7 [_, _, _, _, _, _, _, _, _, _, _, _, _, Mem.no] Z := hS'
   obtain rfl := Option.some.inj H
   exact f_ret h (rs := [.cell 2 35, .tmp 3]) rfl (.cell rfl (hS.load_agg (p := 1) (us := [nS, nS, nS, nS, nS]) rfl U35 rfl ti35 rfl rfl) (.tmp rfl .nil)) ⟨_, rfl, nS, nS, nS, nS, nS, N_5, Mem.no, Mem.no, Mem.no, Mem.no, Mem.no, rfl, (hS.sel [0, 9, 10, 11, 12, 13] (by decide)), (Own.nil Kd.u8 5 Mem.no), ((Own.nil (Kd.slice Kd.u8) 22 N_5).mono mr), (Own.nil (Kd.int .i64) 3 Mem.no), ((Own.nil k_api_Pair 88 N_5).mono mr), ((Own.nil k_api_Last 93 N_5).mono mr)⟩
  ·refine c_cond_f h rfl (ef hc_1) <| wp_skip <| x_then_n (hKJ_1 _ _ ?_)
   refine qr <| s_load h rfl rfl (hS.load_agg (p := 8) (us := [v_2, v_3, v_4, v_5, v_6]) rfl U35 rfl ti35 rfl rfl) fun a h=>?_
   refine sto 1 h rfl rfl hS rfl ti35 rfl rfl rfl (oc hr_2.one (oc (hr_3.mono ln_2).one (oc hr_4.one (oc (hr_5.mono ln_2).one (oc (hr_6.mono ln_2).one on0))))) fun w_8 hS' => ?_
   replace hS : Sep w0 w_8 [_, bx g_1 35 [v_2, v_3, v_4, v_5, v_6], _, _, _, _, _, _, _] Z := hS'
   refine sg h rfl fun a h=>wpList_nil ?_
   replace h : Fr 20 a [(2, _), (3, .bool true)] := h.keep [2, 3]
   refine x_then_n <| wp_ret ?_
   obtain rfl := Option.some.inj H
   exact f_ret h (rs := [.cell 2 35, .tmp 3]) rfl (.cell rfl (hS.load_agg (p := 1) (us := [v_2, v_3, v_4, v_5, v_6]) rfl U35 rfl ti35 rfl rfl) (.tmp rfl .nil)) ⟨_, rfl, v_2, v_3, v_4, v_5, v_6, N_5, M_1, M_2, M_3, M_4, M_5, rfl, (hS.sel [0, 3, 4, 5, 6, 7] (by decide)), hr_2, ((hr_3.mono ln_2).mono le_3), hr_4, ((hr_5.mono ln_2).mono le_3), ((hr_6.mono ln_2).mono le_3)⟩
 clear hKJ_2
 refine wp_region_lit <| mv h rfl fun a h=>?_
 obtain ⟨t_3, et_3, H⟩ := bs H
 refine s_call h rfl Try.call59 rfl (pack_Reader_End.calls _ t_2.2.1 _ t_2.2.2 t_3 w0 _ _ _ mr (hS.enter [1] (by decide)) ((hr_7.mono (Mem.un_le le_2 ln_2)).mono (mr.trans (hS.new_zed [1]))) et_3) ?_
 rintro _ w_9 ⟨N_6, rfl, hS'⟩
 intro a h
 obtain ⟨N_7, hS'', le_4, ln_3⟩ := hS.call [1] (by decide) rfl (l' := [_]) (ow := []) rfl hS'
 replace hS : Sep w0 w_9 [N_7, _, _, _, _, _, _, _, _] Z := hS''
 refine s_not h rfl rfl fun a h=>mv h rfl fun a h=>?_
 obtain ⟨hc_2, H⟩ | ⟨hc_2, H⟩ := ii H
 ·refine s_on h rfl rfl (nf hc_2) <| s_load h rfl rfl (hS.load_agg (p := 8) (us := [v_2, v_3, v_4, v_5, v_6]) rfl U35 rfl ti35 rfl rfl) fun a h=>s_on h rfl rfl (nf hc_2) ?_
  obtain ⟨t_4, et_4, H⟩ := bs H
  refine s_call h rfl Try.call77 rfl (mach_right.calls K t_2.1 _ _ _ _ _ t_4 w0 _ _ _ mr (hS.enter [] (by decide)) (hr_2.rd (hS.own_zed [] 2 (by decide)) (Mem.no_le _)) ((hr_3.mono ln_2).rd (hS.own_zed [] 3 (by decide)) (le_4.trans (hS.new_zed []))) (hr_4.rd (hS.own_zed [] 4 (by decide)) (Mem.no_le _)) ((hr_5.mono ln_2).rd (hS.own_zed [] 5 (by decide)) (le_4.trans (hS.new_zed []))) ((hr_6.mono ln_2).rd (hS.own_zed [] 6 (by decide)) (le_4.trans (hS.new_zed []))) et_4) ?_
  rintro _ w_10 ⟨N_8, rfl, hS'⟩
  intro a h
  obtain ⟨N_9, hS'', le_5, ln_4⟩ := hS.call [] (by decide) rfl (l' := []) (ow := []) rfl hS'
  replace hS : Sep w0 w_10 [N_9, _, _, _, _, _, _, _, _] Z := hS''
  refine s_on h rfl rfl (nf hc_2) <| s_not h rfl rfl fun a h=>pf h rfl (nf hc_2) fun a h=>wpList_nil ?_
  replace h : Fr 20 a [(2, .pointer (some ⟨g_1, 0, none⟩)), (3, .bool false), (5, .pointer (some ⟨g_3, 0, none⟩)), (17, .bool (!t_4))] := h.keep [2, 3, 5, 17]
  exact x_then_n (hJ_j_1 (!t_4) H _ _ ⟨N_9, (h.to rfl), (hS.sel [0, 1, 1001, 3, 4, 5, 6, 7, 8] (by decide)), (le_4.trans le_5)⟩)
 ·refine of h rfl rfl (nt (ef hc_2)) fun a h=>of h rfl rfl (nt (ef hc_2)) fun a h=>of h rfl rfl (nt (ef hc_2)) fun a h=>pt h rfl (nt (ef hc_2)) fun a h=>wpList_nil ?_
  replace h : Fr 20 a [(2, .pointer (some ⟨g_1, 0, none⟩)), (3, .bool false), (5, .pointer (some ⟨g_3, 0, none⟩)), (17, .bool true)] := h.keep [2, 3, 5, 17]
  exact x_then_n (hJ_j_1 true H _ _ ⟨N_7, (h.to rfl), (hS.sel [0, 1, 1001, 3, 4, 5, 6, 7, 8] (by decide)), le_4⟩)

set_option maxHeartbeats 4000000 in
set_option maxRecDepth 20000 in
theorem blob_read.calls (K : Nat) (x0 : List UInt8) (p0_0 : Value) (r : api_State × Bool) (w0 w : World) (Z A : Mem) (hA : A.le Z) (hS : Sep w0 w [] Z) (hp0_0 : Rd Kd.u8 A p0_0 x0)
    (H : blob_read.f K x0 = some r) :
    Calls Try.prog 27 [p0_0].toArray w (Ret fun v w' => ∃ (u0 : Value) (u1 : Value) (u2 : Value) (u3 : Value) (u4 : Value) (u5 : Value) (N : Mem) (M0 : Mem) (M1 : Mem) (M2 : Mem) (M3 : Mem) (M4 : Mem) (M5 : Mem), v = .tuple [.agg [iV r.1.At, u0, u1, u2, u3, u4, u5].toArray, .bool r.2].toArray ∧ Sep w0 w' [N, M0, M1, M2, M3, M4, M5] Z ∧ Own Kd.u8 5 M0 Mem.no u0 r.1.Machine.Objects.Reg ∧ Own (Kd.slice Kd.u8) 22 M1 N u1 r.1.Machine.Objects.Queue ∧ Own (Kd.int .i64) 3 M2 Mem.no u2 r.1.Machine.Objects.Lock ∧ Own k_api_Pair 88 M3 N u3 r.1.Machine.Objects.Map ∧ Own k_api_Last 93 M4 N u4 r.1.Machine.Table ∧ Own k_api_Entry 26 M5 N u5 r.1.Rest) := by
 unfold blob_read.f at H
 refine f_enter _ Try.func27 rfl Try.ntmps27 rfl fun a h=>?_
 replace h : Fr 47 a [(0, p0_0)] := h
 replace hS := hS.start
 refine qr <| v_alloc h rfl ti37 hS fun w_1 g_1 hS' a h => ?_
 replace hS : Sep w0 w_1 [_, bx g_1 37 [iV 0, nS, nS, nS, nS, nS, nS]] Z := hS'
 refine sg h rfl fun a h=>nx <| qr <| mv h rfl fun a h=>?_
 obtain ⟨t_1, et_1, H⟩ := bs H
 refine s_call h rfl Try.call54 rfl (pack_Read.calls x0 _ t_1 w0 _ _ _ mr (hS.enter [] (by decide)) (hp0_0.mono (hA.trans (hS.le_zed []))) et_1) ?_
 rintro _ w_2 ⟨g_2, v_1, N_1, rfl, hS', hr_1⟩
 intro a h
 obtain ⟨N_2, hS'', le_1, ln_1⟩ := hS.call [] (by decide) rfl (l' := []) (ow := [_]) rfl hS'
 replace hS : Sep w0 w_2 [N_2, _, _] Z := hS''
 refine sg h rfl fun a h=>nx <| qr <| mv h rfl fun a h=>?_
 obtain ⟨t_2, et_2, H⟩ := bs H
 refine s_call h rfl Try.call55 rfl (pack_Reader_Num.calls K _ t_1.1 _ t_1.2 549755813888 t_2 w0 _ _ N_2 (hS.new_zed [1]) (hS.enter [1] (by decide)) (hr_1.mono ln_1) et_2) ?_
 rintro _ w_3 ⟨v_2, N_3, rfl, hS', hr_2⟩
 intro a h
 obtain ⟨N_4, hS'', le_2, ln_2⟩ := hS.call [1] (by decide) rfl (l' := [_]) (ow := []) rfl hS'
 replace hS : Sep w0 w_3 [N_4, _, _] Z := hS''
 refine s_build h rfl ti37 pl37 rfl (.cons rfl .nil) (cs := [iV t_2.1, nS, nS, nS, nS, nS, nS]) (by kernel_rfl) fun a h=>v_alloc h rfl ti37 hS fun w_4 g_3 hS' a h => ?_
 replace hS : Sep w0 w_4 [_, _, _, bx g_3 37 [iV 0, nS, nS, nS, nS, nS, nS]] Z := hS'
 refine sto 3 h rfl rfl hS rfl ti37 rfl rfl rfl (oz rfl) fun w_5 hS' => ?_
 replace hS : Sep w0 w_5 [_, _, _, bx g_3 37 [iV t_2.1, _, _, _, _, _, _]] Z := hS'
 refine nx <| qr <| mv h rfl fun a h=>?_
 obtain ⟨t_3, et_3, H⟩ := bs H
 refine s_call h rfl Try.call57 rfl (pack_Reader_Bytes.calls K _ t_2.2.1 _ t_2.2.2 1048576 t_3 w0 _ _ N_4 (hS.new_zed [1]) (hS.enter [1] (by decide)) (hr_2.mono (Mem.un_le le_2 ln_2)) et_3) ?_
 rintro v_3 w_6 ⟨_, v_4, N_5, M_1, rfl, hS', hr_3, hr_4⟩
 intro a h
 obtain ⟨N_6, hS'', le_3, ln_3⟩ := hS.call [1] (by decide) rfl (l' := [_]) (ow := [_]) rfl hS'
 replace hS : Sep w0 w_6 [N_6, _, _, _, _] Z := hS''
 obtain ⟨t_4, et_4, H⟩ := bs H
 refine s_call h rfl Try.call56 rfl (mach_Decode.calls K t_3.1 _ t_4 w0 _ _ _ mr (hS.enter [] (by decide)) (hr_3.rd (hS.own_zed [] 3 (by decide)) (Mem.no_le _)) et_4) ?_
 rintro _ w_7 ⟨v_5, v_6, v_7, v_8, v_9, N_7, M_2, M_3, M_4, M_5, M_6, rfl, hS', hr_5, hr_6, hr_7, hr_8, hr_9⟩
 intro a h
 obtain ⟨N_8, hS'', le_4, ln_4⟩ := hS.call [] (by decide) rfl (l' := []) (ow := [_, _, _, _, _]) rfl hS'
 replace hS : Sep w0 w_7 [N_8, _, _, _, _, _, _, _, _, _] Z := hS''
 refine mv h rfl fun a h=>s_extract h rfl rfl rfl fun a h=>s_extract h rfl rfl rfl fun a h=>v_alloc h rfl ti35 hS fun w_8 g_4 hS' a h => ?_
 replace hS : Sep w0 w_8 [_, _, _, _, _, _, _, _, _, _, bx g_4 35 [nS, nS, nS, nS, nS]] Z := hS'
 refine sto 10 h rfl rfl hS rfl ti35 rfl rfl rfl (oc hr_5.one (oc (hr_6.mono ln_4).one (oc hr_7.one (oc (hr_8.mono ln_4).one (oc (hr_9.mono ln_4).one on0))))) fun w_9 hS' => ?_
 replace hS : Sep w0 w_9 [_, _, _, _, _, _, _, _, _, _, bx g_4 35 [v_5, v_6, v_7, v_8, v_9]] Z := hS'
 refine sg h rfl fun a h=>wpList_nil ?_
 replace h : Fr 47 a [(2, .pointer (some ⟨g_1, 0, none⟩)), (3, .bool false), (4, .pointer (some ⟨g_2, 0, none⟩)), (5, .pointer (some ⟨g_3, 0, none⟩)), (6, .pointer (some ⟨g_4, 0, none⟩)), (7, .bool t_4.2)] := h.keep [2, 3, 4, 5, 6, 7]
 refine x_then_n <| qr <| s_load h rfl rfl (hS.load_agg (p := 10) (us := [v_5, v_6, v_7, v_8, v_9]) rfl U35 rfl ti35 rfl rfl) fun a h=>s_fieldAddr h rfl U37 rfl ti35 rfl rfl fun a h=>?_
 refine sto 3 h rfl rfl hS rfl ti35 rfl rfl rfl (oc hr_5.one (oc (hr_6.mono ln_4).one (oc hr_7.one (oc (hr_8.mono ln_4).one (oc (hr_9.mono ln_4).one on0))))) fun w_10 hS' => ?_
 replace hS : Sep w0 w_10 [_, _, _, bx g_3 37 [_, v_5, v_6, v_7, v_8, v_9, _], _, _, _, _, _, _, _] Z := hS'
 refine nx <| c_seq fun KJ_1 hKJ_1 => qr <| mv h rfl fun a h=>?_
 obtain ⟨t_5, et_5, H⟩ := bs H
 refine s_call h rfl Try.call55 rfl (pack_Reader_Num.calls K _ t_3.2.1 _ t_3.2.2 64 t_5 w0 _ _ N_8 (hS.new_zed [1]) (hS.enter [1] (by decide)) ((hr_4.mono (Mem.un_le le_3 ln_3)).mono le_4) et_5) ?_
 rintro _ w_11 ⟨v_10, N_9, rfl, hS', hr_10⟩
 intro a h
 obtain ⟨N_10, hS'', le_5, ln_5⟩ := hS.call [1] (by decide) rfl (l' := [_]) (ow := []) rfl hS'
 replace hS : Sep w0 w_11 [N_10, _, _, _, _, _, _, _, _, _, _] Z := hS''
 refine mv h rfl fun a h=>wpList_nil <| x_then_n ?_
 have hJ_j_1 : ∀ (x_1 : pack_Reader), ∀ (x_2 : List api_Entry), blob_read.J1 K t_2 t_4 x_1 x_2 = some r → ∀ (a : Act) (w_12 : World), (∃ (v_11 : Value) (v_12 : Value) (N_11 : Mem) (M_7 : Mem), Fr 47 a [(2, .pointer (some ⟨g_1, 0, none⟩)), (3, .bool false), (4, .pointer (some ⟨g_2, 0, none⟩)), (5, .pointer (some ⟨g_3, 0, none⟩)), (7, .bool t_4.2)] ∧ Sep w0 w_12 [N_11, bx g_1 37 [iV 0, nS, nS, nS, nS, nS, nS], bx g_2 112 [v_11, .bool x_1.bad], bx g_3 37 [iV t_2.1, v_5, v_6, v_7, v_8, v_9, v_12], Mem.no, M_2, M_3, M_4, M_5, M_6, Mem.no, M_7] Z ∧ N_10.le N_11 ∧ Rd Kd.u8 N_11 v_11 x_1.b ∧ Own k_api_Entry 26 M_7 N_11 v_12 x_2) → KJ_1 a w_12 := by
  clear H h hS a
  rintro x_1 x_2 H a w_12 ⟨v_11, v_12, N_11, M_7, h, hS, le_6, hr_11, ho_1⟩
  unfold blob_read.J1 at H
  refine hKJ_1 _ _ <| c_seq fun KJ_2 hKJ_2 => qr <| s_fieldAddr h rfl U37 rfl ti3 rfl rfl fun a h=>s_load h rfl rfl (hS.load_one (p := 3) rfl U3 rfl rfl) fun a h=>s_fieldAddr h rfl U37 rfl ti27 rfl rfl fun a h=>s_load h rfl rfl (hS.load_one (p := 3) rfl U27 rfl rfl) fun a h=>s_lenO h rfl U27 rfl ho_1 fun a h=>s_arith (r := w64 (549755813888 - (x_2.length : Int))) h rfl rfl rfl (.inr (.inl ⟨rfl, rfl⟩)) fun a h=>s_cmp (b := decide (t_2.1 > (w64 (549755813888 - (x_2.length : Int))))) h rfl rfl rfl (.inr (.inr (.inr (.inr (.inl ⟨rfl, rfl⟩))))) fun a h=>wpList_nil <| x_then_n ?_
  obtain ⟨hc_1, H⟩ | ⟨hc_1, H⟩ := ii H
  ·refine c_cond_t h rfl (dt hc_1) <| qr <| s_build h rfl ti37 pl37 rfl .nil (cs := [iV 0, nS, nS, nS, nS, nS, nS]) (by kernel_rfl) fun a h=>?_
   refine sto 1 h rfl rfl hS rfl ti37 rfl rfl rfl (oz rfl) fun w_13 hS' => ?_
   replace hS : Sep w0 w_13 [_, _, _, _, _, _, _, _, _, _, _, _] Z := hS'
   refine sg h rfl fun a h=>wpList_nil ?_
   replace h : Fr 47 a [(2, _), (3, _), (4, _), (5, _), (7, _)] := h.keep [2, 3, 4, 5, 7]
   refine x_then_n <| wp_ret (x_then_r ?_)
   have hS' := hS.room
   replace hS : Sep w0 w_13 [_, _, _, _, _, _, _, _, _, _, _, _, Mem.no] Z := hS'
   have hS' := hS.room
   replace hS : Sep w0 w_13 [_, _, _, _, _, _, _, _, _, _, _, _, _, Mem.no] Z := hS'
   have hS' := hS.room
   replace hS : Sep w0 w_13 [_, _, _, _, _, _, _, _, _, _, _, _, _, _, Mem.no] Z := hS'
   have hS' := hS.room
   replace hS : Sep w0 w_13 [_, _, _, _, _, _, _, _, _, _, _, _, _, _, _, Mem.no] Z := hS'
   have hS' := hS.room
   replace hS : Sep w0 w_13 [_, _, _, _, _, _, _, _, _, _, _, _, _, _, _, _, Mem.no] Z := hS'
   have hS' := hS.room
   replace hS : Sep w0 w_13 [_, _, _, _, _, _, _, _, _, _, _, _, _, _, _, _, _, Mem.no] Z := hS'
   obtain rfl := Option.some.inj H
   exact f_ret h (rs := [.cell 2 37, .tmp 3]) rfl (.cell rfl (hS.load_agg (p := 1) (us := [iV 0, nS, nS, nS, nS, nS, nS]) rfl U37 rfl ti37 rfl rfl) (.tmp rfl .nil)) ⟨_, rfl, nS, nS, nS, nS, nS, nS, N_11, Mem.no, Mem.no, Mem.no, Mem.no, Mem.no, Mem.no, rfl, (hS.sel [0, 12, 13, 14, 15, 16, 17] (by decide)), (Own.nil Kd.u8 5 Mem.no), ((Own.nil (Kd.slice Kd.u8) 22 N_11).mono mr), (Own.nil (Kd.int .i64) 3 Mem.no), ((Own.nil k_api_Pair 88 N_11).mono mr), ((Own.nil k_api_Last 93 N_11).mono mr), ((Own.nil k_api_Entry 26 N_11).mono mr)⟩
  ·refine c_cond_f h rfl (df hc_1) <| wp_skip <| x_then_n (hKJ_2 _ _ ?_)
   refine c_seq fun KJ_3 hKJ_3 => h_begin (S := fun w => Sep w0 w [N_11, Mem.no, bx g_2 112 [v_11, .bool x_1.bad], bx g_3 37 [iV t_2.1, v_5, v_6, v_7, v_8, v_9, v_12], Mem.no, M_2, M_3, M_4, M_5, M_6, Mem.no, M_7] Z) 8 (by kernel_rfl) rfl (bA 8 0) (by kernel_rfl) hS fun w_14 hS => ?_
   refine t_take 0 (bA 8 1) rfl rfl rfl rfl h (hS.sub (.cons mr (.zz (.rr (.rr (.zz (.rr (.rr (.rr (.rr (.rr (.zz .ii)))))))))))) (v := .agg ([iV t_2.1, v_5, v_6, v_7, v_8, v_9, v_12] : List Value).toArray) (fun w hS => r_load h rfl (hS.load_agg (p := 3) (us := [iV t_2.1, v_5, v_6, v_7, v_8, v_9, v_12]) rfl U37 rfl ti37 rfl rfl)) fun a h=>t_take 1 (bA 8 3) rfl rfl rfl rfl h (hS.sub (.cons mr (.zz (.rr (.rr (.zz (.rr (.rr (.rr (.rr (.rr (.zz .ii)))))))))))) (v := .bool t_4.2) (fun w hS => r_move h rfl) fun a h=>t_take 2 (bA 8 7) rfl rfl rfl rfl h (hS.sub (.cons mr (.zz (.rr (.rr (.zz (.rr (.rr (.rr (.rr (.rr (.zz .ii)))))))))))) (v := .bool t_4.2) (fun w hS => r_move h rfl) fun a h=>?_
   obtain ⟨hc_2, H⟩ | ⟨hc_2, H⟩ := ii H
   ·refine t_take_on 3 (bA 8 15) rfl rfl rfl rfl hc_2 rfl rfl h (hS.sub (.cons mr (.zz (.rr (.rr (.zz (.rr (.rr (.rr (.rr (.rr (.zz .ii)))))))))))) (v := .pointer (some ⟨g_2, 0, none⟩)) (fun w hS => r_move h rfl) fun a h=>h_event 4 (bA 8 31) rfl (by kernel_rfl) (by kernel_rfl) <| s_on h rfl rfl hc_2 ?_
    obtain ⟨t_6, et_6, H⟩ := bs H
    refine s_call h rfl Try.call59 rfl (pack_Reader_End.calls _ x_1.b _ x_1.bad t_6 w0 _ _ _ mr (hS.enter [1] (by decide)) (hr_11.mono (mr.trans (hS.new_zed [1]))) et_6) ?_
    rintro _ w_15 ⟨N_12, rfl, hS'⟩
    intro a h
    obtain ⟨N_13, hS'', le_7, ln_6⟩ := hS.call [1] (by decide) rfl (l' := [_]) (ow := []) rfl hS'
    replace hS : Sep w0 w_15 [N_13, _, _, _, _, _, _, _, _, _, _, _] Z := hS''
    refine ne (hS.sub (.cons le_7 (.zz (.rr (.rr (.zz (.rr (.rr (.rr (.rr (.rr (.zz .ii)))))))))))) fun hs => ?_
    refine t_take 5 (bA 8 63) rfl rfl rfl rfl h hs (v := .bool t_6) (fun w hS => r_pick_t h rfl hc_2 rfl) fun a h=>h_event 6 (bA 8 127) rfl (by kernel_rfl) (by kernel_rfl) ?_
    refine sto 1 h rfl rfl hS rfl ti37 rfl rfl rfl (oa 1 rfl (oc hr_5.one (oc (hr_6.mono ln_4).one (oc hr_7.one (oc (hr_8.mono ln_4).one (oc (hr_9.mono ln_4).one (oc ho_1.one on0))))))) fun w_16 hS' => ?_
    replace hS : Sep w0 w_16 [_, bx g_1 37 [iV t_2.1, v_5, v_6, v_7, v_8, v_9, v_12], _, _, _, _, _, _, _, _, _, _] Z := hS'
    refine ne (hS.sub (.cons le_7 (.zz (.rr (.rr (.zz (.rr (.rr (.rr (.rr (.rr (.zz .ii)))))))))))) fun hs => ?_
    refine t_take 7 (bA 8 255) rfl rfl rfl rfl h hs (v := .bool t_6) (fun w hS => r_assign h rfl) fun a h=>h_done (by kernel_rfl) ?_
    replace h : Fr 47 a [(2, _), (3, .bool t_6)] := h.keep [2, 3]
    refine x_then_n (hKJ_3 _ _ ?_)
    refine wp_ret ?_
    obtain rfl := Option.some.inj H
    exact f_ret h (rs := [.cell 2 37, .tmp 3]) rfl (.cell rfl (hS.load_agg (p := 1) (us := [iV t_2.1, v_5, v_6, v_7, v_8, v_9, v_12]) rfl U37 rfl ti37 rfl rfl) (.tmp rfl .nil)) ⟨_, rfl, v_5, v_6, v_7, v_8, v_9, v_12, N_13, M_2, M_3, M_4, M_5, M_6, M_7, rfl, (hS.sel [0, 5, 6, 7, 8, 9, 11] (by decide)), hr_5, ((hr_6.mono ln_4).mono (le_5.trans (le_6.trans le_7))), hr_7, ((hr_8.mono ln_4).mono (le_5.trans (le_6.trans le_7))), ((hr_9.mono ln_4).mono (le_5.trans (le_6.trans le_7))), (ho_1.mono le_7)⟩
   ·refine t_take_off 3 (bA 8 15) rfl rfl rfl rfl (.inl (congrArg Value.bool (ef hc_2))) rfl rfl h (hS.sub (.cons mr (.zz (.rr (.rr (.zz (.rr (.rr (.rr (.rr (.rr (.zz .ii)))))))))))) fun a h=>t_take_off 4 (bA 8 31) rfl rfl rfl rfl (.inl (congrArg Value.bool (ef hc_2))) rfl rfl h (hS.sub (.cons mr (.zz (.rr (.rr (.zz (.rr (.rr (.rr (.rr (.rr (.zz .ii)))))))))))) fun a h=>t_take 5 (bA 8 63) rfl rfl rfl rfl h (hS.sub (.cons mr (.zz (.rr (.rr (.zz (.rr (.rr (.rr (.rr (.rr (.zz .ii)))))))))))) (v := .bool false) (fun w hS => r_pick_f h rfl (ef hc_2) rfl) fun a h=>h_event 6 (bA 8 127) rfl (by kernel_rfl) (by kernel_rfl) ?_
    refine sto 1 h rfl rfl hS rfl ti37 rfl rfl rfl (oa 1 rfl (oc hr_5.one (oc (hr_6.mono ln_4).one (oc hr_7.one (oc (hr_8.mono ln_4).one (oc (hr_9.mono ln_4).one (oc ho_1.one on0))))))) fun w_17 hS' => ?_
    replace hS : Sep w0 w_17 [_, bx g_1 37 [iV t_2.1, v_5, v_6, v_7, v_8, v_9, v_12], _, _, _, _, _, _, _, _, _, _] Z := hS'
    refine ne (hS.sub (.cons mr (.zz (.rr (.rr (.zz (.rr (.rr (.rr (.rr (.rr (.zz .ii)))))))))))) fun hs => ?_
    refine t_take 7 (bA 8 255) rfl rfl rfl rfl h hs (v := .bool false) (fun w hS => r_assign h rfl) fun a h=>h_done (by kernel_rfl) ?_
    replace h : Fr 47 a [(2, _), (3, _)] := h.keep [2, 3]
    refine x_then_n (hKJ_3 _ _ ?_)
    refine wp_ret ?_
    obtain rfl := Option.some.inj H
    exact f_ret h (rs := [.cell 2 37, .tmp 3]) rfl (.cell rfl (hS.load_agg (p := 1) (us := [iV t_2.1, v_5, v_6, v_7, v_8, v_9, v_12]) rfl U37 rfl ti37 rfl rfl) (.tmp rfl .nil)) ⟨_, rfl, v_5, v_6, v_7, v_8, v_9, v_12, N_11, M_2, M_3, M_4, M_5, M_6, M_7, rfl, (hS.sel [0, 5, 6, 7, 8, 9, 11] (by decide)), hr_5, ((hr_6.mono ln_4).mono (le_5.trans le_6)), hr_7, ((hr_8.mono ln_4).mono (le_5.trans le_6)), ((hr_9.mono ln_4).mono (le_5.trans le_6)), (ho_1.mono mr)⟩
 clear hKJ_1
 have hS' := hS.room
 replace hS : Sep w0 w_11 [_, _, _, _, _, _, _, _, _, _, _, Mem.no] Z := hS'
 refine c_block <| c_loop (fun k_1 a w_18 => ∃ (x_3 : Int) (x_4 : pack_Reader) (x_5 : List api_Entry) (v_13 : Value) (v_14 : Value) (N_14 : Mem) (M_8 : Mem), blob_read.L1 K t_5 (fun v => blob_read.J1 K t_2 t_4 v.1 v.2) k_1 (x_3, x_4, x_5) = some r ∧ Fr 47 a [(2, .pointer (some ⟨g_1, 0, none⟩)), (3, .bool false), (4, .pointer (some ⟨g_2, 0, none⟩)), (5, .pointer (some ⟨g_3, 0, none⟩)), (7, .bool t_4.2), (22, iV t_5.1), (23, iV x_3)] ∧ Sep w0 w_18 [N_14, bx g_1 37 [iV 0, nS, nS, nS, nS, nS, nS], bx g_2 112 [v_13, .bool x_4.bad], bx g_3 37 [iV t_2.1, v_5, v_6, v_7, v_8, v_9, v_14], Mem.no, M_2, M_3, M_4, M_5, M_6, Mem.no, M_8] Z ∧ N_10.le N_14 ∧ Rd Kd.u8 N_14 v_13 x_4.b ∧ Own k_api_Entry 26 M_8 N_14 v_14 x_5) K ⟨0, (⟨t_5.2.1, t_5.2.2⟩ : pack_Reader), ([] : List api_Entry), v_10, nS, N_10, Mem.no, H, (h.to rfl), (hS.sel [0, 1, 2, 3, 1003, 5, 6, 7, 8, 9, 1009, 11] (by decide)), mr, (hr_10.mono (Mem.un_le le_5 ln_5)), ((Own.nil k_api_Entry 26 N_10).mono mr)⟩ (fun a w h => by obtain ⟨_, _, _, _, _, _, _, H, _⟩ := h; cases (show (none : Option (api_State × Bool)) = some r from H)) ?_
 clear h hS a H
 rintro k_1 a w_18 KL_1 hKL_1 ⟨x_3, x_4, x_5, v_13, v_14, N_14, M_8, H, h, hS, le_8, hr_12, ho_2⟩
 replace H : blob_read.B1 K t_5 (fun v => blob_read.J1 K t_2 t_4 v.1 v.2) (blob_read.L1 K t_5 (fun v => blob_read.J1 K t_2 t_4 v.1 v.2) k_1) x_3 x_4 x_5 = some r := H
 unfold blob_read.B1 at H
 refine qr <| s_cmp (b := decide (x_3 < t_5.1)) h rfl rfl rfl (.inr (.inr (.inl ⟨rfl, rfl⟩))) fun a h=>nx <| c_seq fun KJ_4 hKJ_4 => ?_
 obtain ⟨hc_3, H⟩ | ⟨hc_3, H⟩ := ii H
 ·refine c_cond_t h rfl (dt hc_3) <| wp_skip <| x_then_n (hKJ_4 _ _ ?_)
  refine c_seq fun KJ_5 hKJ_5 => c_block <| h_begin (S := fun w => Sep w0 w [N_14, bx g_1 37 [iV 0, nS, nS, nS, nS, nS, nS], Mem.no, Mem.no, Mem.no, M_2, M_3, M_4, M_5, M_6, Mem.no, Mem.no] Z) 8 (by kernel_rfl) rfl (bA 8 0) (by kernel_rfl) hS fun w_19 hS => ?_
  refine t_take 0 (bA 8 1) rfl rfl rfl rfl h (hS.sub (.cons mr (.rr (.zz (.zz (.zz (.rr (.rr (.rr (.rr (.rr (.zz (.zz .ii))))))))))))) (v := .pointer (some ⟨g_3, 6, none⟩)) (fun w hS => r_fieldAddr h U37 rfl ti27 rfl rfl rfl) fun a h=>t_take 2 (bA 8 5) rfl rfl rfl rfl h (hS.sub (.cons mr (.rr (.zz (.zz (.zz (.rr (.rr (.rr (.rr (.rr (.zz (.zz .ii))))))))))))) (v := .pointer (some ⟨g_2, 0, none⟩)) (fun w hS => r_move h rfl) fun a h=>?_
  obtain ⟨t_7, et_7, H⟩ := bs H
  obtain ⟨t_8, et_8, H⟩ := bs H
  refine h_evs [1, 3] (by kernel_rfl) ⟨⟨_, (bA 8 7), rfl, by kernel_rfl, ?_⟩, ⟨_, (bA 8 13), rfl, by kernel_rfl, ?_⟩, trivial⟩
  ·refine s_load h rfl rfl (hS.load_one (p := 3) rfl U27 rfl rfl) fun a h=>wpList_nil <| x_then_n ⟨(hS.sub (.cons mr (.rr (.zz (.zz (.zz (.rr (.rr (.rr (.rr (.rr (.zz (.zz .ii))))))))))))), ?_⟩
   refine h_event 3 (bA 8 15) rfl (by kernel_rfl) (by kernel_rfl) <| s_call h rfl Try.call58 rfl (mach_GetEntry.calls K _ x_4.b _ x_4.bad t_7 w0 _ _ N_14 (hS.new_zed [1]) (hS.enter [1] (by decide)) hr_12 et_7) ?_
   rintro _ w_20 ⟨v_15, v_16, v_17, v_18, N_15, M_9, M_10, M_11, rfl, hS', hr_13, hr_14, hr_15, hr_16⟩
   intro a h
   obtain ⟨N_16, hS'', le_9, ln_7⟩ := hS.call [1] (by decide) rfl (l' := [_]) (ow := [_, _, _]) rfl hS'
   replace hS : Sep w0 w_20 [N_16, _, _, _, _, _, _, _, _, _, _, _, _, _, _] Z := hS''
   refine ne (hS.sub (.cons le_9 (.rr (.zz (.zz (.zz (.rr (.rr (.rr (.rr (.rr (.zz (.zz .nn))))))))))))) fun hs => ?_
   refine h_event 4 (bA 8 31) rfl (by kernel_rfl) (by kernel_rfl) ?_
   obtain ⟨N_17, hS', le_10, lo_1⟩ := hS.freeze 11 rfl
   replace hS : Sep w0 w_20 [N_17, _, _, _, _, _, _, _, _, _, _, _, Mem.no, _, _] Z := hS'
   obtain ⟨N_18, hS', le_11, lo_2⟩ := hS.freeze 12 rfl
   replace hS : Sep w0 w_20 [N_18, _, _, _, _, _, _, _, _, _, _, _, _, Mem.no, _] Z := hS'
   obtain ⟨N_19, hS', le_12, lo_3⟩ := hS.freeze 13 rfl
   replace hS : Sep w0 w_20 [N_19, _, _, _, _, _, _, _, _, _, _, _, _, _, Mem.no] Z := hS'
   have hq_1 : Reps k_api_Entry N_19 ([t_7.1] : List api_Entry) _ := ((Reps.one (d := k_api_Entry) (x := t_7.1) (k_api_Entry.mk' ((hr_13.rd lo_1 (Mem.no_le _)).mono (le_11.trans le_12)) ((hr_14.rd lo_2 (Mem.no_le _)).mono le_12) (hr_15.rd lo_3 (Mem.no_le _)))).append (Reps.nil k_api_Entry _))
   refine s_buildSlice h rfl U27 ti26 rfl rfl rfl (.cons rfl .nil) rfl rfl rfl hS hq_1 rfl fun w_21 v_19 M_12 hS' ho_3 a h => ?_
   replace hS : Sep w0 w_21 [_, _, _, _, _, _, _, _, _, _, _, _, _, _, _, M_12] Z := hS'
   refine ne (hS.sub (.cons (le_9.trans (le_10.trans (le_11.trans le_12))) (.rr (.zz (.zz (.zz (.rr (.rr (.rr (.rr (.rr (.zz (.zz .nn))))))))))))) fun hs => ?_
   refine h_event 5 (bA 8 63) rfl (by kernel_rfl) (by kernel_rfl) <| s_append (J := N_19) (I' := N_19) (p := 11) 1353245080339 h rfl rfl rfl U27 ti26 rfl rfl rfl rfl hS rfl ho_2 (ho_3.src (hS.own 15)) (le_9.trans (le_10.trans (le_11.trans le_12))) mr et_8 fun w_22 v_20 M_13 hS' ho_4 a h => ?_
   replace hS : Sep w0 w_22 [_, _, _, _, _, _, _, _, _, _, _, M_13, _, _, _, _] Z := hS'
   refine ne (hS.sub (.cons (le_9.trans (le_10.trans (le_11.trans le_12))) (.rr (.zz (.zz (.zz (.rr (.rr (.rr (.rr (.rr (.zz (.zz .nn))))))))))))) fun hs => ?_
   refine t_take 6 (bA 8 127) rfl rfl rfl rfl h hs (v := .pointer (some ⟨g_3, 6, none⟩)) (fun w hS => r_fieldAddr h U37 rfl ti27 rfl rfl rfl) fun a h=>h_event 7 (bA 8 255) rfl (by kernel_rfl) (by kernel_rfl) ?_
   refine sto 3 h rfl rfl hS rfl ti27 ho_4.cellsA rfl rfl (oc ho_4.one on0) fun w_23 hS' => ?_
   replace hS : Sep w0 w_23 [_, _, _, bx g_3 37 [_, _, _, _, _, _, v_20], _, _, _, _, _, _, _, _, _, _, _, _] Z := hS'
   refine ne (hS.sub (.cons (le_9.trans (le_10.trans (le_11.trans le_12))) (.rr (.zz (.zz (.zz (.rr (.rr (.rr (.rr (.rr (.zz (.zz .nn))))))))))))) fun hs => ?_
   refine h_done (by kernel_rfl) ?_
   replace h : Fr 47 a [(2, _), (3, _), (4, _), (5, _), (7, _), (22, _), (23, _)] := h.keep [2, 3, 4, 5, 7, 22, 23]
   refine x_block_n <| x_then_n (hKJ_5 _ _ ?_)
   refine wp_region_lit <| s_arith (r := w64 (x_3 + 1)) h rfl rfl rfl (.inl ⟨rfl, rfl⟩) fun a h=>mv h rfl fun a h=>wpList_nil <| x_then_n (hKL_1 _ _ ?_)
   exact ⟨w64 (x_3 + 1), (⟨t_7.2.1, t_7.2.2⟩ : pack_Reader), t_8, v_18, v_20, N_19, M_13, H, (h.to rfl), (hS.sel [0, 1, 2, 3, 1003, 5, 6, 7, 8, 9, 1009, 11] (by decide)), (le_8.trans (le_9.trans (le_10.trans (le_11.trans le_12)))), ((hr_16.mono (Mem.un_le le_9 ln_7)).mono (le_10.trans (le_11.trans le_12))), (ho_4.mono mr)⟩
  ·refine s_call h rfl Try.call58 rfl (mach_GetEntry.calls K _ x_4.b _ x_4.bad t_7 w0 _ _ N_14 (hS.new_zed [1]) (hS.enter [1] (by decide)) hr_12 et_7) ?_
   rintro _ w_24 ⟨v_21, v_22, v_23, v_24, N_20, M_14, M_15, M_16, rfl, hS', hr_17, hr_18, hr_19, hr_20⟩
   intro a h
   obtain ⟨N_21, hS'', le_13, ln_8⟩ := hS.call [1] (by decide) rfl (l' := [_]) (ow := [_, _, _]) rfl hS'
   replace hS : Sep w0 w_24 [N_21, _, _, _, _, _, _, _, _, _, _, _, _, _, _] Z := hS''
   refine ne (hS.sub (.cons le_13 (.rr (.zz (.zz (.zz (.rr (.rr (.rr (.rr (.rr (.zz (.zz .nn))))))))))))) fun hs => ?_
   refine h_evs [1, 4] (by kernel_rfl) ⟨⟨_, (bA 8 15), rfl, by kernel_rfl, ?_⟩, ⟨_, (bA 8 29), rfl, by kernel_rfl, ?_⟩, trivial⟩
   ·refine s_load h rfl rfl (hS.load_one (p := 3) rfl U27 rfl rfl) fun a h=>wpList_nil <| x_then_n ⟨(hS.sub (.cons le_13 (.rr (.zz (.zz (.zz (.rr (.rr (.rr (.rr (.rr (.zz (.zz .nn))))))))))))), ?_⟩
    refine h_event 4 (bA 8 31) rfl (by kernel_rfl) (by kernel_rfl) ?_
    obtain ⟨N_22, hS', le_14, lo_4⟩ := hS.freeze 11 rfl
    replace hS : Sep w0 w_24 [N_22, _, _, _, _, _, _, _, _, _, _, _, Mem.no, _, _] Z := hS'
    obtain ⟨N_23, hS', le_15, lo_5⟩ := hS.freeze 12 rfl
    replace hS : Sep w0 w_24 [N_23, _, _, _, _, _, _, _, _, _, _, _, _, Mem.no, _] Z := hS'
    obtain ⟨N_24, hS', le_16, lo_6⟩ := hS.freeze 13 rfl
    replace hS : Sep w0 w_24 [N_24, _, _, _, _, _, _, _, _, _, _, _, _, _, Mem.no] Z := hS'
    have hq_2 : Reps k_api_Entry N_24 ([t_7.1] : List api_Entry) _ := ((Reps.one (d := k_api_Entry) (x := t_7.1) (k_api_Entry.mk' ((hr_17.rd lo_4 (Mem.no_le _)).mono (le_15.trans le_16)) ((hr_18.rd lo_5 (Mem.no_le _)).mono le_16) (hr_19.rd lo_6 (Mem.no_le _)))).append (Reps.nil k_api_Entry _))
    refine s_buildSlice h rfl U27 ti26 rfl rfl rfl (.cons rfl .nil) rfl rfl rfl hS hq_2 rfl fun w_25 v_25 M_17 hS' ho_5 a h => ?_
    replace hS : Sep w0 w_25 [_, _, _, _, _, _, _, _, _, _, _, _, _, _, _, M_17] Z := hS'
    refine ne (hS.sub (.cons (le_13.trans (le_14.trans (le_15.trans le_16))) (.rr (.zz (.zz (.zz (.rr (.rr (.rr (.rr (.rr (.zz (.zz .nn))))))))))))) fun hs => ?_
    refine h_event 5 (bA 8 63) rfl (by kernel_rfl) (by kernel_rfl) <| s_append (J := N_24) (I' := N_24) (p := 11) 1353245080339 h rfl rfl rfl U27 ti26 rfl rfl rfl rfl hS rfl ho_2 (ho_5.src (hS.own 15)) (le_13.trans (le_14.trans (le_15.trans le_16))) mr et_8 fun w_26 v_26 M_18 hS' ho_6 a h => ?_
    replace hS : Sep w0 w_26 [_, _, _, _, _, _, _, _, _, _, _, M_18, _, _, _, _] Z := hS'
    refine ne (hS.sub (.cons (le_13.trans (le_14.trans (le_15.trans le_16))) (.rr (.zz (.zz (.zz (.rr (.rr (.rr (.rr (.rr (.zz (.zz .nn))))))))))))) fun hs => ?_
    refine t_take 6 (bA 8 127) rfl rfl rfl rfl h hs (v := .pointer (some ⟨g_3, 6, none⟩)) (fun w hS => r_fieldAddr h U37 rfl ti27 rfl rfl rfl) fun a h=>h_event 7 (bA 8 255) rfl (by kernel_rfl) (by kernel_rfl) ?_
    refine sto 3 h rfl rfl hS rfl ti27 ho_6.cellsA rfl rfl (oc ho_6.one on0) fun w_27 hS' => ?_
    replace hS : Sep w0 w_27 [_, _, _, bx g_3 37 [_, _, _, _, _, _, v_26], _, _, _, _, _, _, _, _, _, _, _, _] Z := hS'
    refine ne (hS.sub (.cons (le_13.trans (le_14.trans (le_15.trans le_16))) (.rr (.zz (.zz (.zz (.rr (.rr (.rr (.rr (.rr (.zz (.zz .nn))))))))))))) fun hs => ?_
    refine h_done (by kernel_rfl) ?_
    replace h : Fr 47 a [(2, _), (3, _), (4, _), (5, _), (7, _), (22, _), (23, _)] := h.keep [2, 3, 4, 5, 7, 22, 23]
    refine x_block_n <| x_then_n (hKJ_5 _ _ ?_)
    refine wp_region_lit <| s_arith (r := w64 (x_3 + 1)) h rfl rfl rfl (.inl ⟨rfl, rfl⟩) fun a h=>mv h rfl fun a h=>wpList_nil <| x_then_n (hKL_1 _ _ ?_)
    exact ⟨w64 (x_3 + 1), (⟨t_7.2.1, t_7.2.2⟩ : pack_Reader), t_8, v_24, v_26, N_24, M_18, H, (h.to rfl), (hS.sel [0, 1, 2, 3, 1003, 5, 6, 7, 8, 9, 1009, 11] (by decide)), (le_8.trans (le_13.trans (le_14.trans (le_15.trans le_16)))), ((hr_20.mono (Mem.un_le le_13 ln_8)).mono (le_14.trans (le_15.trans le_16))), (ho_6.mono mr)⟩
   ·obtain ⟨N_25, hS', le_17, lo_7⟩ := hS.freeze 11 rfl
    replace hS : Sep w0 w_24 [N_25, _, _, _, _, _, _, _, _, _, _, _, Mem.no, _, _] Z := hS'
    obtain ⟨N_26, hS', le_18, lo_8⟩ := hS.freeze 12 rfl
    replace hS : Sep w0 w_24 [N_26, _, _, _, _, _, _, _, _, _, _, _, _, Mem.no, _] Z := hS'
    obtain ⟨N_27, hS', le_19, lo_9⟩ := hS.freeze 13 rfl
    replace hS : Sep w0 w_24 [N_27, _, _, _, _, _, _, _, _, _, _, _, _, _, Mem.no] Z := hS'
    have hq_3 : Reps k_api_Entry N_27 ([t_7.1] : List api_Entry) _ := ((Reps.one (d := k_api_Entry) (x := t_7.1) (k_api_Entry.mk' ((hr_17.rd lo_7 (Mem.no_le _)).mono (le_18.trans le_19)) ((hr_18.rd lo_8 (Mem.no_le _)).mono le_19) (hr_19.rd lo_9 (Mem.no_le _)))).append (Reps.nil k_api_Entry _))
    refine s_buildSlice h rfl U27 ti26 rfl rfl rfl (.cons rfl .nil) rfl rfl rfl hS hq_3 rfl fun w_28 v_27 M_19 hS' ho_7 a h => ?_
    replace hS : Sep w0 w_28 [_, _, _, _, _, _, _, _, _, _, _, _, _, _, _, M_19] Z := hS'
    refine ne (hS.sub (.cons (le_13.trans (le_17.trans (le_18.trans le_19))) (.rr (.zz (.zz (.zz (.rr (.rr (.rr (.rr (.rr (.zz (.zz .nn))))))))))))) fun hs => ?_
    refine h_event 1 (bA 8 31) rfl (by kernel_rfl) (by kernel_rfl) <| s_load h rfl rfl (hS.load_one (p := 3) rfl U27 rfl rfl) fun a h=>wpList_nil <| x_then_n ⟨(hS.sub (.cons (le_13.trans (le_17.trans (le_18.trans le_19))) (.rr (.zz (.zz (.zz (.rr (.rr (.rr (.rr (.rr (.zz (.zz .nn))))))))))))), ?_⟩
    refine h_event 5 (bA 8 63) rfl (by kernel_rfl) (by kernel_rfl) <| s_append (J := N_27) (I' := N_27) (p := 11) 1353245080339 h rfl rfl rfl U27 ti26 rfl rfl rfl rfl hS rfl ho_2 (ho_7.src (hS.own 15)) (le_13.trans (le_17.trans (le_18.trans le_19))) mr et_8 fun w_29 v_28 M_20 hS' ho_8 a h => ?_
    replace hS : Sep w0 w_29 [_, _, _, _, _, _, _, _, _, _, _, M_20, _, _, _, _] Z := hS'
    refine ne (hS.sub (.cons (le_13.trans (le_17.trans (le_18.trans le_19))) (.rr (.zz (.zz (.zz (.rr (.rr (.rr (.rr (.rr (.zz (.zz .nn))))))))))))) fun hs => ?_
    refine t_take 6 (bA 8 127) rfl rfl rfl rfl h hs (v := .pointer (some ⟨g_3, 6, none⟩)) (fun w hS => r_fieldAddr h U37 rfl ti27 rfl rfl rfl) fun a h=>h_event 7 (bA 8 255) rfl (by kernel_rfl) (by kernel_rfl) ?_
    refine sto 3 h rfl rfl hS rfl ti27 ho_8.cellsA rfl rfl (oc ho_8.one on0) fun w_30 hS' => ?_
    replace hS : Sep w0 w_30 [_, _, _, bx g_3 37 [_, _, _, _, _, _, v_28], _, _, _, _, _, _, _, _, _, _, _, _] Z := hS'
    refine ne (hS.sub (.cons (le_13.trans (le_17.trans (le_18.trans le_19))) (.rr (.zz (.zz (.zz (.rr (.rr (.rr (.rr (.rr (.zz (.zz .nn))))))))))))) fun hs => ?_
    refine h_done (by kernel_rfl) ?_
    replace h : Fr 47 a [(2, _), (3, _), (4, _), (5, _), (7, _), (22, _), (23, _)] := h.keep [2, 3, 4, 5, 7, 22, 23]
    refine x_block_n <| x_then_n (hKJ_5 _ _ ?_)
    refine wp_region_lit <| s_arith (r := w64 (x_3 + 1)) h rfl rfl rfl (.inl ⟨rfl, rfl⟩) fun a h=>mv h rfl fun a h=>wpList_nil <| x_then_n (hKL_1 _ _ ?_)
    exact ⟨w64 (x_3 + 1), (⟨t_7.2.1, t_7.2.2⟩ : pack_Reader), t_8, v_24, v_28, N_27, M_20, H, (h.to rfl), (hS.sel [0, 1, 2, 3, 1003, 5, 6, 7, 8, 9, 1009, 11] (by decide)), (le_8.trans (le_13.trans (le_17.trans (le_18.trans le_19)))), ((hr_20.mono (Mem.un_le le_13 ln_8)).mono (le_17.trans (le_18.trans le_19))), (ho_8.mono mr)⟩
 ·refine c_cond_f h rfl (df hc_3) <| wp_exit (x_then_x (x_then_x (x_block_t ?_)))
  exact x_then_n (hJ_j_1 x_4 x_5 H _ _ ⟨v_13, v_14, N_14, M_8, (h.to rfl), (hS.sel [0, 1, 2, 3, 1003, 5, 6, 7, 8, 9, 1009, 11] (by decide)), le_8, hr_12, (ho_2.mono mr)⟩)

set_option maxHeartbeats 4000000 in
set_option maxRecDepth 20000 in
theorem blob_Decode.calls (K : Nat) (x0 : List UInt8) (p0_0 : Value) (r : api_State × Bool) (w0 w : World) (Z A : Mem) (hA : A.le Z) (hS : Sep w0 w [] Z) (hp0_0 : Rd Kd.u8 A p0_0 x0)
    (H : blob_Decode.f K x0 = some r) :
    Calls Try.prog 9 [p0_0].toArray w (Ret fun v w' => ∃ (u0 : Value) (u1 : Value) (u2 : Value) (u3 : Value) (u4 : Value) (u5 : Value) (N : Mem) (M0 : Mem) (M1 : Mem) (M2 : Mem) (M3 : Mem) (M4 : Mem) (M5 : Mem), v = .tuple [.agg [iV r.1.At, u0, u1, u2, u3, u4, u5].toArray, .bool r.2].toArray ∧ Sep w0 w' [N, M0, M1, M2, M3, M4, M5] Z ∧ Own Kd.u8 5 M0 Mem.no u0 r.1.Machine.Objects.Reg ∧ Own (Kd.slice Kd.u8) 22 M1 N u1 r.1.Machine.Objects.Queue ∧ Own (Kd.int .i64) 3 M2 Mem.no u2 r.1.Machine.Objects.Lock ∧ Own k_api_Pair 88 M3 N u3 r.1.Machine.Objects.Map ∧ Own k_api_Last 93 M4 N u4 r.1.Machine.Table ∧ Own k_api_Entry 26 M5 N u5 r.1.Rest) := by
 unfold blob_Decode.f at H
 refine f_enter _ Try.func9 rfl Try.ntmps9 rfl fun a h=>?_
 replace h : Fr 26 a [(0, p0_0)] := h
 replace hS := hS.start
 refine qr <| v_alloc h rfl ti37 hS fun w_1 g_1 hS' a h => ?_
 replace hS : Sep w0 w_1 [_, bx g_1 37 [iV 0, nS, nS, nS, nS, nS, nS]] Z := hS'
 refine sg h rfl fun a h=>nx <| qr <| mv h rfl fun a h=>?_
 obtain ⟨t_1, et_1, H⟩ := bs H
 refine s_call h rfl Try.call26 rfl (fram_Sound.calls K x0 _ t_1 w0 _ _ A (hA.trans (hS.le_zed [])) (hS.enter [] (by decide)) hp0_0 et_1) ?_
 rintro _ w_2 ⟨v_1, N_1, rfl, hS', hr_1⟩
 intro a h
 obtain ⟨N_2, hS'', le_1, ln_1⟩ := hS.call [] (by decide) rfl (l' := []) (ow := []) rfl hS'
 replace hS : Sep w0 w_2 [N_2, _] Z := hS''
 have hr_2 : Rd Kd.u8 (A.un N_2) v_1 t_1.1 := hr_1.mono (Mem.un_left ln_1)
 refine mv h rfl fun a h=>s_extract h rfl rfl rfl fun a h=>s_extract h rfl rfl rfl fun a h=>sg h rfl fun a h=>sg h rfl fun a h=>nx <| qr <| mv h rfl fun a h=>?_
 obtain ⟨t_2, et_2, H⟩ := bs H
 refine s_call h rfl Try.call27 rfl (blob_read.calls K t_1.1 _ t_2 w0 _ _ _ mr (hS.enter [] (by decide)) (hr_2.mono (Mem.un_le (hA.trans (hS.le_zed [])) (mr.trans (hS.new_zed [])))) et_2) ?_
 rintro _ w_3 ⟨v_2, v_3, v_4, v_5, v_6, v_7, N_3, M_1, M_2, M_3, M_4, M_5, M_6, rfl, hS', hr_3, hr_4, hr_5, hr_6, hr_7, hr_8⟩
 intro a h
 obtain ⟨N_4, hS'', le_2, ln_2⟩ := hS.call [] (by decide) rfl (l' := []) (ow := [_, _, _, _, _, _]) rfl hS'
 replace hS : Sep w0 w_3 [N_4, _, _, _, _, _, _, _] Z := hS''
 refine mv h rfl fun a h=>s_extract h rfl rfl rfl fun a h=>s_extract h rfl rfl rfl fun a h=>v_alloc h rfl ti37 hS fun w_4 g_2 hS' a h => ?_
 replace hS : Sep w0 w_4 [_, _, _, _, _, _, _, _, bx g_2 37 [iV 0, nS, nS, nS, nS, nS, nS]] Z := hS'
 refine sto 8 h rfl rfl hS rfl ti37 rfl rfl rfl (oa 1 rfl (oc hr_3.one (oc (hr_4.mono ln_2).one (oc hr_5.one (oc (hr_6.mono ln_2).one (oc (hr_7.mono ln_2).one (oc (hr_8.mono ln_2).one on0))))))) fun w_5 hS' => ?_
 replace hS : Sep w0 w_5 [_, _, _, _, _, _, _, _, bx g_2 37 [iV t_2.1.At, v_2, v_3, v_4, v_5, v_6, v_7]] Z := hS'
 refine sg h rfl fun a h=>nx <| c_seq fun KJ_1 hKJ_1 => c_seq fun KJ_2 hKJ_2 => ?_
 have hJ_j_1 : ∀ (x_1 : Bool), blob_Decode.J1 K t_2 x_1 = some r → ∀ (a : Act) (w_6 : World), (∃ (N_5 : Mem), Fr 26 a [(2, .pointer (some ⟨g_1, 0, none⟩)), (3, .bool false), (6, .pointer (some ⟨g_2, 0, none⟩)), (23, .bool x_1)] ∧ Sep w0 w_6 [N_5, bx g_1 37 [iV 0, nS, nS, nS, nS, nS, nS], M_1, M_2, M_3, M_4, M_5, M_6, bx g_2 37 [iV t_2.1.At, v_2, v_3, v_4, v_5, v_6, v_7]] Z ∧ N_4.le N_5) → KJ_2 a w_6 := by
  clear H h hS a
  rintro x_1 H a w_6 ⟨N_5, h, hS, le_3⟩
  unfold blob_Decode.J1 at H
  refine hKJ_2 _ _ ?_
  obtain ⟨hc_1, H⟩ | ⟨hc_1, H⟩ := ii H
  ·refine c_cond_t h rfl hc_1 <| qr <| s_build h rfl ti37 pl37 rfl .nil (cs := [iV 0, nS, nS, nS, nS, nS, nS]) (by kernel_rfl) fun a h=>?_
   refine sto 1 h rfl rfl hS rfl ti37 rfl rfl rfl (oz rfl) fun w_7 hS' => ?_
   replace hS : Sep w0 w_7 [_, _, _, _, _, _, _, _, _] Z := hS'
   refine sg h rfl fun a h=>wpList_nil ?_
   replace h : Fr 26 a [(2, _), (3, _), (6, _)] := h.keep [2, 3, 6]
   refine x_then_n <| wp_ret (x_then_r ?_)
   have hS' := hS.room
   replace hS : Sep w0 w_7 [_, _, _, _, _, _, _, _, _, Mem.no] Z := hS'
   have hS' := hS.room
   replace hS : Sep w0 w_7 [_, _, _, _, _, _, _, _, _, _, Mem.no] Z := hS'
   have hS' := hS.room
   replace hS : Sep w0 w_7 [_, _, _, _, _, _, _, _, _, _, _, Mem.no] Z := hS'
   have hS' := hS.room
   replace hS : Sep w0 w_7 [_, _, _, _, _, _, _, _, _, _, _, _, Mem.no] Z := hS'
   have hS' := hS.room
   replace hS : Sep w0 w_7 [_, _, _, _, _, _, _, _, _, _, _, _, _, Mem.no] Z := hS'
   have hS' := hS.room
   replace hS : Sep w0 w_7 [_, _, _, _, _, _, _, _, _, _, _, _, _, _, Mem.no] Z := hS'
   obtain rfl := Option.some.inj H
   exact f_ret h (rs := [.cell 2 37, .tmp 3]) rfl (.cell rfl (hS.load_agg (p := 1) (us := [iV 0, nS, nS, nS, nS, nS, nS]) rfl U37 rfl ti37 rfl rfl) (.tmp rfl .nil)) ⟨_, rfl, nS, nS, nS, nS, nS, nS, N_5, Mem.no, Mem.no, Mem.no, Mem.no, Mem.no, Mem.no, rfl, (hS.sel [0, 9, 10, 11, 12, 13, 14] (by decide)), (Own.nil Kd.u8 5 Mem.no), ((Own.nil (Kd.slice Kd.u8) 22 N_5).mono mr), (Own.nil (Kd.int .i64) 3 Mem.no), ((Own.nil k_api_Pair 88 N_5).mono mr), ((Own.nil k_api_Last 93 N_5).mono mr), ((Own.nil k_api_Entry 26 N_5).mono mr)⟩
  ·refine c_cond_f h rfl (ef hc_1) <| wp_skip <| x_then_n (hKJ_1 _ _ ?_)
   refine qr <| s_load h rfl rfl (hS.load_agg (p := 8) (us := [iV t_2.1.At, v_2, v_3, v_4, v_5, v_6, v_7]) rfl U37 rfl ti37 rfl rfl) fun a h=>?_
   refine sto 1 h rfl rfl hS rfl ti37 rfl rfl rfl (oa 1 rfl (oc hr_3.one (oc (hr_4.mono ln_2).one (oc hr_5.one (oc (hr_6.mono ln_2).one (oc (hr_7.mono ln_2).one (oc (hr_8.mono ln_2).one on0))))))) fun w_8 hS' => ?_
   replace hS : Sep w0 w_8 [_, bx g_1 37 [iV t_2.1.At, v_2, v_3, v_4, v_5, v_6, v_7], _, _, _, _, _, _, _] Z := hS'
   refine sg h rfl fun a h=>wpList_nil ?_
   replace h : Fr 26 a [(2, _), (3, .bool true)] := h.keep [2, 3]
   refine x_then_n <| wp_ret ?_
   obtain rfl := Option.some.inj H
   exact f_ret h (rs := [.cell 2 37, .tmp 3]) rfl (.cell rfl (hS.load_agg (p := 1) (us := [iV t_2.1.At, v_2, v_3, v_4, v_5, v_6, v_7]) rfl U37 rfl ti37 rfl rfl) (.tmp rfl .nil)) ⟨_, rfl, v_2, v_3, v_4, v_5, v_6, v_7, N_5, M_1, M_2, M_3, M_4, M_5, M_6, rfl, (hS.sel [0, 2, 3, 4, 5, 6, 7] (by decide)), hr_3, ((hr_4.mono ln_2).mono le_3), hr_5, ((hr_6.mono ln_2).mono le_3), ((hr_7.mono ln_2).mono le_3), ((hr_8.mono ln_2).mono le_3)⟩
 clear hKJ_2
 refine wp_region_lit <| mv h rfl fun a h=>s_not h rfl rfl fun a h=>mv h rfl fun a h=>?_
 obtain ⟨hc_2, H⟩ | ⟨hc_2, H⟩ := ii H
 ·refine s_on h rfl rfl (nf hc_2) <| mv h rfl fun a h=>s_on h rfl rfl (nf hc_2) <| s_not h rfl rfl fun a h=>pf h rfl (nf hc_2) fun a h=>wpList_nil ?_
  replace h : Fr 26 a [(2, .pointer (some ⟨g_1, 0, none⟩)), (3, .bool false), (6, .pointer (some ⟨g_2, 0, none⟩)), (23, .bool (!t_2.2))] := h.keep [2, 3, 6, 23]
  exact x_then_n (hJ_j_1 (!t_2.2) H _ _ ⟨N_4, (h.to rfl), (hS.sel [0, 1, 2, 3, 4, 5, 6, 7, 8] (by decide)), mr⟩)
 ·refine of h rfl rfl (nt (ef hc_2)) fun a h=>of h rfl rfl (nt (ef hc_2)) fun a h=>pt h rfl (nt (ef hc_2)) fun a h=>wpList_nil ?_
  replace h : Fr 26 a [(2, .pointer (some ⟨g_1, 0, none⟩)), (3, .bool false), (6, .pointer (some ⟨g_2, 0, none⟩)), (23, .bool true)] := h.keep [2, 3, 6, 23]
  exact x_then_n (hJ_j_1 true H _ _ ⟨N_4, (h.to rfl), (hS.sel [0, 1, 2, 3, 4, 5, 6, 7, 8] (by decide)), mr⟩)

set_option maxHeartbeats 4000000 in
set_option maxRecDepth 20000 in
theorem hocketlaw15_awake.calls (K : Nat) (r : Unit) (w0 w : World) (Z A : Mem) (hA : A.le Z) (hS : Sep w0 w [] Z)
    (H : hocketlaw15_awake.f K = some r) :
    Calls Try.prog 11 [].toArray w (Ret fun v w' => ∃ (N : Mem), v = .bool true ∧ Sep w0 w' [N] Z) := by
 unfold hocketlaw15_awake.f at H
 refine f_enter _ Try.func11 rfl Try.ntmps11 rfl fun a h=>?_
 replace h : Fr 73 a [] := h
 replace hS := hS.start
 refine qr <| sg h rfl fun a h=>nx <| qr <| s_build h rfl ti24 pl24 rfl (.cons rfl .nil) (cs := [iV 1, iV 0, nS, nS, nS]) (by kernel_rfl) fun a h=>s_build h rfl ti26 pl26 rfl (.cons rfl (.cons rfl (.cons rfl .nil))) (cs := [iV 1, iV 1, iV 1, iV 0, nS, nS, nS]) (by kernel_rfl) fun a h=>?_
 have hq_1 : Reps k_api_Entry Mem.no ([(⟨1, 1, (⟨1, 0, ([] : List UInt8), ([] : List UInt8), ([] : List UInt8)⟩ : api_Cmd)⟩ : api_Entry)] : List api_Entry) _ := ((Reps.one (d := k_api_Entry) (x := (⟨1, 1, (⟨1, 0, ([] : List UInt8), ([] : List UInt8), ([] : List UInt8)⟩ : api_Cmd)⟩ : api_Entry)) (k_api_Entry.mk' (Rd.nil _ _) (Rd.nil _ _) (Rd.nil _ _))).append (Reps.nil k_api_Entry _))
 refine s_buildSlice h rfl U27 ti26 rfl rfl rfl (.cons rfl .nil) rfl rfl rfl hS hq_1 rfl fun w_1 v_1 M_1 hS' ho_1 a h => ?_
 replace hS : Sep w0 w_1 [_, M_1] Z := hS'
 refine s_build h rfl ti37 pl37 rfl (.cons rfl (.cons ho_1.cells .nil)) (cs := [iV 3, nS, nS, nS, nS, nS, v_1]) (by kernel_rfl) fun a h=>v_alloc h rfl ti37 hS fun w_2 g_1 hS' a h => ?_
 replace hS : Sep w0 w_2 [_, _, bx g_1 37 [iV 0, nS, nS, nS, nS, nS, nS]] Z := hS'
 refine sto 2 h rfl rfl hS rfl ti37 rfl rfl rfl (oa 6 rfl (oc ho_1.one on0)) fun w_3 hS' => ?_
 replace hS : Sep w0 w_3 [_, _, bx g_1 37 [iV 3, _, _, _, _, _, v_1]] Z := hS'
 refine nx <| qr <| s_load h rfl rfl (hS.load_agg (p := 2) (us := [iV 3, nS, nS, nS, nS, nS, v_1]) rfl U37 rfl ti37 rfl rfl) fun a h=>?_
 obtain ⟨t_1, et_1, H⟩ := bs H
 refine s_call h rfl Try.call8 rfl (blob_Encode.calls K (⟨3, (⟨(⟨([] : List UInt8), ([] : List (List UInt8)), ([] : List Int), ([] : List api_Pair)⟩ : api_Objects), ([] : List api_Last)⟩ : api_Machine), ([(⟨1, 1, (⟨1, 0, ([] : List UInt8), ([] : List UInt8), ([] : List UInt8)⟩ : api_Cmd)⟩ : api_Entry)] : List api_Entry)⟩ : api_State) _ _ _ _ _ _ t_1 w0 _ _ _ mr (hS.enter [] (by decide)) (Rd.nil _ _) (Rd.nil _ _) (Rd.nil _ _) (Rd.nil _ _) (Rd.nil _ _) (ho_1.rd (hS.own_zed [] 0 (by decide)) (mr.trans (hS.new_zed []))) et_1) ?_
 rintro v_2 w_4 ⟨_, N_1, M_2, rfl, hS', hr_1⟩
 intro a h
 obtain ⟨N_2, hS'', le_1, ln_1⟩ := hS.call [] (by decide) rfl (l' := []) (ow := [_]) rfl hS'
 replace hS : Sep w0 w_4 [N_2, _, _, _] Z := hS''
 refine sg h rfl fun a h=>nx <| qr <| mv h rfl fun a h=>?_
 obtain ⟨t_2, et_2, H⟩ := bs H
 refine s_call h rfl Try.call9 rfl (blob_Decode.calls K t_1 _ t_2 w0 _ _ _ mr (hS.enter [] (by decide)) (hr_1.rd (hS.own_zed [] 2 (by decide)) (Mem.no_le _)) et_2) ?_
 rintro _ w_5 ⟨v_3, v_4, v_5, v_6, v_7, v_8, N_3, M_3, M_4, M_5, M_6, M_7, M_8, rfl, hS', hr_2, hr_3, hr_4, hr_5, hr_6, hr_7⟩
 intro a h
 obtain ⟨N_4, hS'', le_2, ln_2⟩ := hS.call [] (by decide) rfl (l' := []) (ow := [_, _, _, _, _, _]) rfl hS'
 replace hS : Sep w0 w_5 [N_4, _, _, _, _, _, _, _, _, _] Z := hS''
 refine mv h rfl fun a h=>s_extract h rfl rfl rfl fun a h=>s_extract h rfl rfl rfl fun a h=>v_alloc h rfl ti37 hS fun w_6 g_2 hS' a h => ?_
 replace hS : Sep w0 w_6 [_, _, _, _, _, _, _, _, _, _, bx g_2 37 [iV 0, nS, nS, nS, nS, nS, nS]] Z := hS'
 refine sto 10 h rfl rfl hS rfl ti37 rfl rfl rfl (oa 1 rfl (oc hr_2.one (oc (hr_3.mono ln_2).one (oc hr_4.one (oc (hr_5.mono ln_2).one (oc (hr_6.mono ln_2).one (oc (hr_7.mono ln_2).one on0))))))) fun w_7 hS' => ?_
 replace hS : Sep w0 w_7 [_, _, _, _, _, _, _, _, _, _, bx g_2 37 [iV t_2.1.At, v_3, v_4, v_5, v_6, v_7, v_8]] Z := hS'
 refine sg h rfl fun a h=>wpList_nil ?_
 replace h : Fr 73 a [(0, .bool false), (1, .pointer (some ⟨g_1, 0, none⟩)), (2, v_2), (3, .pointer (some ⟨g_2, 0, none⟩)), (4, .bool t_2.2)] := h.keep [0, 1, 2, 3, 4]
 refine x_then_n <| qr <| mv h rfl fun a h=>mv h rfl fun a h=>s_lenO h rfl U22 rfl hr_1 fun a h=>s_div (r := w64 (Int.tdiv (t_1.length : Int) 2)) h rfl rfl rfl (by decide) (.inl ⟨rfl, rfl⟩) fun a h=>?_
 obtain ⟨N_5, hS', le_3, lo_1⟩ := hS.freeze 2 rfl
 replace hS : Sep w0 w_7 [N_5, _, _, Mem.no, _, _, _, _, _, _, _] Z := hS'
 obtain ⟨t_3, et_3, H⟩ := bs H
 refine s_slice h rfl U22 ti5 rfl rfl (hr_1.rd lo_1 (Mem.no_le _)) rfl rfl et_3 fun v_9 hr_8 a h => ?_
 obtain ⟨t_4, et_4, H⟩ := bs H
 refine s_call h rfl Try.call9 rfl (blob_Decode.calls K t_3 _ t_4 w0 _ _ _ mr (hS.enter [] (by decide)) (hr_8.mono (mr.trans (hS.new_zed []))) et_4) ?_
 rintro _ w_8 ⟨v_10, v_11, v_12, v_13, v_14, v_15, N_6, M_9, M_10, M_11, M_12, M_13, M_14, rfl, hS', hr_9, hr_10, hr_11, hr_12, hr_13, hr_14⟩
 intro a h
 obtain ⟨N_7, hS'', le_4, ln_3⟩ := hS.call [] (by decide) rfl (l' := []) (ow := [_, _, _, _, _, _]) rfl hS'
 replace hS : Sep w0 w_8 [N_7, _, _, _, _, _, _, _, _, _, _, _, _, _, _, _, _] Z := hS''
 refine mv h rfl fun a h=>s_extract h rfl rfl rfl fun a h=>s_extract h rfl rfl rfl fun a h=>v_alloc h rfl ti37 hS fun w_9 g_3 hS' a h => ?_
 replace hS : Sep w0 w_9 [_, _, _, _, _, _, _, _, _, _, _, _, _, _, _, _, _, bx g_3 37 [iV 0, nS, nS, nS, nS, nS, nS]] Z := hS'
 refine sto 17 h rfl rfl hS rfl ti37 rfl rfl rfl (oa 1 rfl (oc hr_9.one (oc (hr_10.mono ln_3).one (oc hr_11.one (oc (hr_12.mono ln_3).one (oc (hr_13.mono ln_3).one (oc (hr_14.mono ln_3).one on0))))))) fun w_10 hS' => ?_
 replace hS : Sep w0 w_10 [_, _, _, _, _, _, _, _, _, _, _, _, _, _, _, _, _, bx g_3 37 [iV t_4.1.At, v_10, v_11, v_12, v_13, v_14, v_15]] Z := hS'
 refine sg h rfl fun a h=>nx <| qr <| mv h rfl fun a h=>?_
 obtain ⟨t_5, et_5, H⟩ := bs H
 refine s_call h rfl Try.call14 rfl (blob_Part.calls t_1 _ 4 t_5 w0 _ _ _ mr (hS.enter [] (by decide)) ((hr_1.rd lo_1 (Mem.no_le _)).mono (le_4.trans (hS.new_zed []))) et_5) ?_
 rintro _ w_11 ⟨v_16, N_8, M_15, rfl, hS', hr_15⟩
 intro a h
 obtain ⟨N_9, hS'', le_5, ln_4⟩ := hS.call [] (by decide) rfl (l' := []) (ow := [_]) rfl hS'
 replace hS : Sep w0 w_11 [N_9, _, _, _, _, _, _, _, _, _, _, _, _, _, _, _, _, _, _] Z := hS''
 refine mv h rfl fun a h=>s_extract h rfl rfl rfl fun a h=>s_extract h rfl rfl rfl fun a h=>sg h rfl fun a h=>sg h rfl fun a h=>nx <| qr <| mv h rfl fun a h=>mv h rfl fun a h=>s_len h rfl U22 rfl (hr_1.rd lo_1 (Mem.no_le _)) fun a h=>?_
 obtain ⟨t_6, et_6, H⟩ := bs H
 refine s_call h rfl Try.call14 rfl (blob_Part.calls t_1 _ (t_1.length : Int) t_6 w0 _ _ _ mr (hS.enter [] (by decide)) ((hr_1.rd lo_1 (Mem.no_le _)).mono ((le_4.trans le_5).trans (hS.new_zed []))) et_6) ?_
 rintro _ w_12 ⟨v_17, N_10, M_16, rfl, hS', hr_16⟩
 intro a h
 obtain ⟨N_11, hS'', le_6, ln_5⟩ := hS.call [] (by decide) rfl (l' := []) (ow := [_]) rfl hS'
 replace hS : Sep w0 w_12 [N_11, _, _, _, _, _, _, _, _, _, _, _, _, _, _, _, _, _, _, _] Z := hS''
 refine mv h rfl fun a h=>s_extract h rfl rfl rfl fun a h=>s_extract h rfl rfl rfl fun a h=>sg h rfl fun a h=>sg h rfl fun a h=>nx <| c_seq fun KJ_1 hKJ_1 => wp_region_lit <| mv h rfl fun a h=>mv h rfl fun a h=>?_
 obtain ⟨hc_1, H⟩ | ⟨hc_1, H⟩ := ii H
 ·refine s_on h rfl rfl hc_1 <| s_load h rfl rfl (hS.load_agg (p := 2) (us := [iV 3, nS, nS, nS, nS, nS, v_1]) rfl U37 rfl ti37 rfl rfl) fun a h=>s_on h rfl rfl hc_1 <| s_load h rfl rfl (hS.load_agg (p := 10) (us := [iV t_2.1.At, v_3, v_4, v_5, v_6, v_7, v_8]) rfl U37 rfl ti37 rfl rfl) fun a h=>s_on h rfl rfl hc_1 ?_
  obtain ⟨t_7, et_7, H⟩ := bs H
  refine s_call h rfl Try.call16 rfl (hocketref15_Same.calls K (⟨3, (⟨(⟨([] : List UInt8), ([] : List (List UInt8)), ([] : List Int), ([] : List api_Pair)⟩ : api_Objects), ([] : List api_Last)⟩ : api_Machine), ([(⟨1, 1, (⟨1, 0, ([] : List UInt8), ([] : List UInt8), ([] : List UInt8)⟩ : api_Cmd)⟩ : api_Entry)] : List api_Entry)⟩ : api_State) _ _ _ _ _ _ t_2.1 _ _ _ _ _ _ t_7 w0 _ _ _ mr (hS.enter [] (by decide)) (Rd.nil _ _) (Rd.nil _ _) (Rd.nil _ _) (Rd.nil _ _) (Rd.nil _ _) (ho_1.rd (hS.own_zed [] 0 (by decide)) ((le_1.trans (le_2.trans (le_3.trans (le_4.trans (le_5.trans le_6))))).trans (hS.new_zed []))) (hr_2.rd (hS.own_zed [] 3 (by decide)) (Mem.no_le _)) ((hr_3.mono ln_2).rd (hS.own_zed [] 4 (by decide)) ((le_3.trans (le_4.trans (le_5.trans le_6))).trans (hS.new_zed []))) (hr_4.rd (hS.own_zed [] 5 (by decide)) (Mem.no_le _)) ((hr_5.mono ln_2).rd (hS.own_zed [] 6 (by decide)) ((le_3.trans (le_4.trans (le_5.trans le_6))).trans (hS.new_zed []))) ((hr_6.mono ln_2).rd (hS.own_zed [] 7 (by decide)) ((le_3.trans (le_4.trans (le_5.trans le_6))).trans (hS.new_zed []))) ((hr_7.mono ln_2).rd (hS.own_zed [] 8 (by decide)) ((le_3.trans (le_4.trans (le_5.trans le_6))).trans (hS.new_zed []))) et_7) ?_
  rintro _ w_13 ⟨N_12, rfl, hS'⟩
  intro a h
  obtain ⟨N_13, hS'', le_7, ln_6⟩ := hS.call [] (by decide) rfl (l' := []) (ow := []) rfl hS'
  replace hS : Sep w0 w_13 [N_13, _, _, _, _, _, _, _, _, _, _, _, _, _, _, _, _, _, _, _] Z := hS''
  refine pt h rfl hc_1 fun a h=>mv h rfl fun a h=>?_
  obtain ⟨hc_2, H⟩ | ⟨hc_2, H⟩ := ii H
  ·refine s_on h rfl rfl hc_2 <| mv h rfl fun a h=>s_on h rfl rfl hc_2 <| s_not h rfl rfl fun a h=>pt h rfl hc_2 fun a h=>mv h rfl fun a h=>?_
   obtain ⟨hc_3, H⟩ | ⟨hc_3, H⟩ := ii H
   ·cases H
   ·refine s_on h rfl rfl (nt (ef hc_3)) <| mv h rfl fun a h=>pt h rfl (nt (ef hc_3)) fun a h=>mv h rfl fun a h=>?_
    obtain ⟨hc_4, H⟩ | ⟨hc_4, H⟩ := ii H
    ·refine s_on h rfl rfl hc_4 <| mv h rfl fun a h=>s_on h rfl rfl hc_4 <| s_lenO h rfl U22 rfl hr_15 fun a h=>s_on h rfl rfl hc_4 <| mv h rfl fun a h=>s_on h rfl rfl hc_4 <| s_len h rfl U22 rfl (hr_1.rd lo_1 (Mem.no_le _)) fun a h=>s_on h rfl rfl hc_4 <| s_arith (r := w64 ((t_1.length : Int) - 4)) h rfl rfl rfl (.inr (.inl ⟨rfl, rfl⟩)) fun a h=>s_on h rfl rfl hc_4 <| s_cmp (b := ((t_5.1.length : Int) == (w64 ((t_1.length : Int) - 4)))) h rfl rfl rfl (.inl ⟨rfl, rfl⟩) fun a h=>?_
     refine pt h rfl hc_4 fun a h=>mv h rfl fun a h=>?_
     obtain ⟨hc_5, H⟩ | ⟨hc_5, H⟩ := ii H
     ·refine s_on h rfl rfl (bt hc_5) <| mv h rfl fun a h=>s_on h rfl rfl (bt hc_5) <| s_not h rfl rfl fun a h=>pt h rfl (bt hc_5) fun a h=>mv h rfl fun a h=>?_
      obtain ⟨hc_6, H⟩ | ⟨hc_6, H⟩ := ii H
      ·cases H
      ·refine s_on h rfl rfl (nt (ef hc_6)) <| mv h rfl fun a h=>s_on h rfl rfl (nt (ef hc_6)) <| s_len h rfl U22 rfl (hr_1.rd lo_1 (Mem.no_le _)) fun a h=>s_on h rfl rfl (nt (ef hc_6)) <| s_cmp (b := ((t_1.length : Int) == 19)) h rfl rfl rfl (.inl ⟨rfl, rfl⟩) fun a h=>pt h rfl (nt (ef hc_6)) fun a h=>sg h rfl fun a h=>wpList_nil ?_
       replace h : Fr 73 a [(0, .bool ((t_1.length : Int) == 19))] := h.keep [0]
       refine x_then_n (hKJ_1 _ _ ?_)
       refine wp_ret ?_
       obtain ⟨hc_7, H⟩ | ⟨hc_7, H⟩ := ii H
       ·exact r1 h 0 rfl rfl ⟨_, rfl, N_13, (congrArg Value.bool (bt hc_7)), (hS.sel [0] (by decide))⟩
       ·cases H
     ·cases H
    ·cases H
  ·cases H
 ·cases H

set_option maxHeartbeats 4000000 in
set_option maxRecDepth 20000 in
theorem hocketlaw15_BlobParts.calls (K : Nat) (x0 : List Int) (p0_0 : Value) (x1 : Int) (x2 : Int) (x3 : Int) (r : Unit) (w0 w : World) (Z A : Mem) (hA : A.le Z) (hS : Sep w0 w [] Z) (hp0_0 : Rd (Kd.int .i64) A p0_0 x0)
    (H : hocketlaw15_BlobParts.f K x0 x1 x2 x3 = some r) :
    Calls Try.prog 6 [p0_0, iV x1, iV x2, iV x3].toArray w (Ret fun v w' => ∃ (N : Mem), v = .bool true ∧ Sep w0 w' [N] Z) := by
 unfold hocketlaw15_BlobParts.f at H
 refine f_enter _ Try.func6 rfl Try.ntmps6 rfl fun a h=>?_
 replace h : Fr 128 a [(0, p0_0), (1, iV x1), (2, iV x2), (3, iV x3)] := h
 replace hS := hS.start
 refine qr <| sg h rfl fun a h=>nx <| qr <| mv h rfl fun a h=>mv h rfl fun a h=>mv h rfl fun a h=>?_
 obtain ⟨t_1, et_1, H⟩ := bs H
 refine s_call h rfl Try.call13 rfl (hocketlaw15_State.calls K x0 _ x1 x2 t_1 w0 _ _ _ mr (hS.enter [] (by decide)) (hp0_0.mono (hA.trans (hS.le_zed []))) et_1) ?_
 rintro _ w_1 ⟨v_1, v_2, v_3, v_4, v_5, v_6, N_1, M_1, M_2, M_3, M_4, M_5, M_6, rfl, hS', hr_1, hr_2, hr_3, hr_4, hr_5, hr_6⟩
 intro a h
 obtain ⟨N_2, hS'', le_1, ln_1⟩ := hS.call [] (by decide) rfl (l' := []) (ow := [_, _, _, _, _, _]) rfl hS'
 replace hS : Sep w0 w_1 [N_2, _, _, _, _, _, _] Z := hS''
 refine v_alloc h rfl ti37 hS fun w_2 g_1 hS' a h => ?_
 replace hS : Sep w0 w_2 [_, _, _, _, _, _, _, bx g_1 37 [iV 0, nS, nS, nS, nS, nS, nS]] Z := hS'
 refine sto 7 h rfl rfl hS rfl ti37 rfl rfl rfl (oa 1 rfl (oc hr_1.one (oc (hr_2.mono ln_1).one (oc hr_3.one (oc (hr_4.mono ln_1).one (oc (hr_5.mono ln_1).one (oc (hr_6.mono ln_1).one on0))))))) fun w_3 hS' => ?_
 replace hS : Sep w0 w_3 [_, _, _, _, _, _, _, bx g_1 37 [iV t_1.At, v_1, v_2, v_3, v_4, v_5, v_6]] Z := hS'
 refine nx <| qr <| s_load h rfl rfl (hS.load_agg (p := 7) (us := [iV t_1.At, v_1, v_2, v_3, v_4, v_5, v_6]) rfl U37 rfl ti37 rfl rfl) fun a h=>?_
 obtain ⟨t_2, et_2, H⟩ := bs H
 refine s_call h rfl Try.call8 rfl (blob_Encode.calls K t_1 _ _ _ _ _ _ t_2 w0 _ _ _ mr (hS.enter [] (by decide)) (hr_1.rd (hS.own_zed [] 0 (by decide)) (Mem.no_le _)) ((hr_2.mono ln_1).rd (hS.own_zed [] 1 (by decide)) (mr.trans (hS.new_zed []))) (hr_3.rd (hS.own_zed [] 2 (by decide)) (Mem.no_le _)) ((hr_4.mono ln_1).rd (hS.own_zed [] 3 (by decide)) (mr.trans (hS.new_zed []))) ((hr_5.mono ln_1).rd (hS.own_zed [] 4 (by decide)) (mr.trans (hS.new_zed []))) ((hr_6.mono ln_1).rd (hS.own_zed [] 5 (by decide)) (mr.trans (hS.new_zed []))) et_2) ?_
 rintro v_7 w_4 ⟨_, N_3, M_7, rfl, hS', hr_7⟩
 intro a h
 obtain ⟨N_4, hS'', le_2, ln_2⟩ := hS.call [] (by decide) rfl (l' := []) (ow := [_]) rfl hS'
 replace hS : Sep w0 w_4 [N_4, _, _, _, _, _, _, _, _] Z := hS''
 refine sg h rfl fun a h=>nx <| qr <| sg h rfl fun a h=>wpList_nil ?_
 replace h : Fr 128 a [(3, _), (8, .bool false), (9, .pointer (some ⟨g_1, 0, none⟩)), (10, v_7), (11, nS)] := h.keep [3, 8, 9, 10, 11]
 refine x_then_n <| c_seq fun KJ_1 hKJ_1 => qr <| sg h rfl fun a h=>wpList_nil <| x_then_n ?_
 have hJ_j_1 : ∀ (x_1 : List UInt8), hocketlaw15_BlobParts.J1 K t_2 t_1 x3 x_1 = some r → ∀ (a : Act) (w_5 : World), (∃ (v_8 : Value) (N_5 : Mem) (M_8 : Mem), Fr 128 a [(3, iV x3), (8, .bool false), (9, .pointer (some ⟨g_1, 0, none⟩)), (10, v_7), (11, v_8)] ∧ Sep w0 w_5 [N_5, M_1, M_2, M_3, M_4, M_5, M_6, bx g_1 37 [iV t_1.At, v_1, v_2, v_3, v_4, v_5, v_6], M_7, M_8] Z ∧ N_4.le N_5 ∧ Own Kd.u8 5 M_8 Mem.no v_8 x_1) → KJ_1 a w_5 := by
  clear H h hS a
  rintro x_1 H a w_5 ⟨v_8, N_5, M_8, h, hS, le_3, ho_1⟩
  unfold hocketlaw15_BlobParts.J1 at H
  refine hKJ_1 _ _ <| qr <| mv h rfl fun a h=>?_
  obtain ⟨t_3, et_3, H⟩ := bs H
  refine s_call h rfl Try.call9 rfl (blob_Decode.calls K x_1 _ t_3 w0 _ _ _ mr (hS.enter [] (by decide)) (ho_1.rd (hS.own_zed [] 8 (by decide)) (Mem.no_le _)) et_3) ?_
  rintro _ w_6 ⟨v_9, v_10, v_11, v_12, v_13, v_14, N_6, M_9, M_10, M_11, M_12, M_13, M_14, rfl, hS', hr_8, hr_9, hr_10, hr_11, hr_12, hr_13⟩
  intro a h
  obtain ⟨N_7, hS'', le_4, ln_3⟩ := hS.call [] (by decide) rfl (l' := []) (ow := [_, _, _, _, _, _]) rfl hS'
  replace hS : Sep w0 w_6 [N_7, _, _, _, _, _, _, _, _, _, _, _, _, _, _, _] Z := hS''
  refine mv h rfl fun a h=>s_extract h rfl rfl rfl fun a h=>s_extract h rfl rfl rfl fun a h=>v_alloc h rfl ti37 hS fun w_7 g_2 hS' a h => ?_
  replace hS : Sep w0 w_7 [_, _, _, _, _, _, _, _, _, _, _, _, _, _, _, _, bx g_2 37 [iV 0, nS, nS, nS, nS, nS, nS]] Z := hS'
  refine sto 16 h rfl rfl hS rfl ti37 rfl rfl rfl (oa 1 rfl (oc hr_8.one (oc (hr_9.mono ln_3).one (oc hr_10.one (oc (hr_11.mono ln_3).one (oc (hr_12.mono ln_3).one (oc (hr_13.mono ln_3).one on0))))))) fun w_8 hS' => ?_
  replace hS : Sep w0 w_8 [_, _, _, _, _, _, _, _, _, _, _, _, _, _, _, _, bx g_2 37 [iV t_3.1.At, v_9, v_10, v_11, v_12, v_13, v_14]] Z := hS'
  refine sg h rfl fun a h=>nx <| c_seq fun KJ_2 hKJ_2 => c_seq fun KJ_3 hKJ_3 => ?_
  have hJ_j_2 : ∀ (x_2 : Bool), hocketlaw15_BlobParts.J2 K x3 t_2 x_1 x_2 = some r → ∀ (a : Act) (w_9 : World), (∃ (N_8 : Mem), Fr 128 a [(3, iV x3), (8, .bool false), (10, v_7), (11, v_8), (97, .bool x_2)] ∧ Sep w0 w_9 [N_8, Mem.no, Mem.no, Mem.no, Mem.no, Mem.no, Mem.no, Mem.no, M_7, M_8, Mem.no, Mem.no, Mem.no, Mem.no, Mem.no, Mem.no, Mem.no] Z ∧ N_7.le N_8) → KJ_3 a w_9 := by
   clear H h hS a
   rintro x_2 H a w_9 ⟨N_8, h, hS, le_5⟩
   unfold hocketlaw15_BlobParts.J2 at H
   refine hKJ_3 _ _ ?_
   obtain ⟨hc_1, H⟩ | ⟨hc_1, H⟩ := ii H
   ·cases H
   ·refine c_cond_f h rfl (ef hc_1) <| wp_skip <| x_then_n (hKJ_2 _ _ ?_)
    refine wp_seq ?_
    replace hS : Sep w0 w_9 [N_8, M_7, M_8] Z := hS.sel [0, 8, 9] (by decide)
    refine wp_region_lit <| mv h rfl fun a h=>s_bits (i := x3) (j := 1048575) (r := band .i64 x3 1048575) h rfl rfl rfl (.inl ⟨rfl, rfl⟩) fun a h=>mv h rfl fun a h=>s_lenO h rfl U22 rfl hr_7 fun a h=>s_arith (r := w64 (8 * (t_2.length : Int))) h rfl rfl rfl (.inr (.inr ⟨rfl, rfl⟩)) fun a h=>?_
    obtain ⟨t_4, et_4, H⟩ := bs H
    refine s_div (r := t_4) h rfl rfl rfl (rem_some et_4).1 (.inr ⟨rfl, (rem_some et_4).2⟩) fun a h=>sg h rfl fun a h=>nx <| qr <| mv h rfl fun a h=>mv h rfl fun a h=>s_div (r := w64 (Int.tdiv t_4 8)) h rfl rfl rfl (by decide) (.inl ⟨rfl, rfl⟩) fun a h=>mv h rfl fun a h=>mv h rfl fun a h=>s_div (r := w64 (Int.tdiv t_4 8)) h rfl rfl rfl (by decide) (.inl ⟨rfl, rfl⟩) fun a h=>?_
    obtain ⟨t_5, et_5, H⟩ := bs H
    refine v_indexO h rfl U22 ti5 rfl rfl rfl ho_1 (hS.own 2) et_5 fun ad_1 cs_1 hk_1 hc_2 => ?_
    obtain rfl := (show cs_1 = [.int .u8 (t_5.toNat : Int)] from hk_1)
    intro a h
    refine s_load h rfl rfl (el_one (o := 0) hc_2 U5 rfl rfl) fun a h=>mv h rfl fun a h=>s_bits (i := t_4) (j := 7) (r := band .i64 t_4 7) h rfl rfl rfl (.inl ⟨rfl, rfl⟩) fun a h=>s_conv (wu64 (band .i64 t_4 7)) h rfl U3 U53 rfl rfl fun a h=>s_shift (r := ((toU8 (((1 : UInt8).toNat : Int) * 2 ^ (min (wu64 (band .i64 t_4 7) : Int).toNat 8))).toNat : Int)) h rfl rfl rfl (wu64_nn _) (.inl ⟨rfl, (wrap_u8 _).symm⟩) fun a h=>s_bits (i := (t_5.toNat : Int)) (j := ((toU8 (((1 : UInt8).toNat : Int) * 2 ^ (min (wu64 (band .i64 t_4 7) : Int).toNat 8))).toNat : Int)) (r := ((t_5 ^^^ (toU8 (((1 : UInt8).toNat : Int) * 2 ^ (min (wu64 (band .i64 t_4 7) : Int).toNat 8)))).toNat : Int)) h rfl rfl rfl (.inr (.inr (.inl ⟨rfl, (bxor8 _ _).symm⟩))) fun a h=>?_
    obtain ⟨t_6, et_6, H⟩ := bs H
    refine s_indexOwn h rfl U22 ti5 rfl rfl rfl ho_1 et_6 fun g_3 cur_95 hM_1 a h => ?_
    obtain ⟨w_10, M_15, hs', hS', ho_2⟩ := Own.stored (P := Try.prog) (p := 2) (t := 5) (o := 0) (nv := .int .u8 ((t_5 ^^^ (toU8 (((1 : UInt8).toNat : Int) * 2 ^ (min (wu64 (band .i64 t_4 7) : Int).toNat 8)))).toNat : Int)) (vs := [.int .u8 ((t_5 ^^^ (toU8 (((1 : UInt8).toNat : Int) * 2 ^ (min (wu64 (band .i64 t_4 7) : Int).toNat 8)))).toNat : Int)]) (u' := t_5 ^^^ (toU8 (((1 : UInt8).toNat : Int) * 2 ^ (min (wu64 (band .i64 t_4 7) : Int).toNat 8)))) hS rfl ho_1 hM_1 et_6 ti5 rfl rfl rfl (oz rfl) (fun cs hk => by obtain rfl := (show cs = [_] from hk); rfl)
    refine s_store h rfl rfl hs' ?_
    replace hS : Sep w0 w_10 [_, _, M_15] Z := hS'
    refine wpList_nil ?_
    replace h : Fr 128 a [(8, _), (11, _)] := h.keep [8, 11]
    refine x_then_n <| qr <| mv h rfl fun a h=>?_
    obtain ⟨t_7, et_7, H⟩ := bs H
    refine s_call h rfl Try.call9 rfl (blob_Decode.calls K (x_1.set ((w64 (Int.tdiv t_4 8))).toNat (t_5 ^^^ (toU8 (((1 : UInt8).toNat : Int) * 2 ^ (min (wu64 (band .i64 t_4 7) : Int).toNat 8))))) _ t_7 w0 _ _ _ mr (hS.enter [] (by decide)) (ho_2.rd (hS.own_zed [] 1 (by decide)) (Mem.no_le _)) et_7) ?_
    rintro _ w_11 ⟨v_15, v_16, v_17, v_18, v_19, v_20, N_9, M_16, M_17, M_18, M_19, M_20, M_21, rfl, hS', hr_14, hr_15, hr_16, hr_17, hr_18, hr_19⟩
    intro a h
    obtain ⟨N_10, hS'', le_6, ln_4⟩ := hS.call [] (by decide) rfl (l' := []) (ow := [_, _, _, _, _, _]) rfl hS'
    replace hS : Sep w0 w_11 [N_10, _, _, _, _, _, _, _, _] Z := hS''
    refine mv h rfl fun a h=>s_extract h rfl rfl rfl fun a h=>s_extract h rfl rfl rfl fun a h=>v_alloc h rfl ti37 hS fun w_12 g_4 hS' a h => ?_
    replace hS : Sep w0 w_12 [_, _, _, _, _, _, _, _, _, bx g_4 37 [iV 0, nS, nS, nS, nS, nS, nS]] Z := hS'
    refine sto 9 h rfl rfl hS rfl ti37 rfl rfl rfl (oa 1 rfl (oc hr_14.one (oc (hr_15.mono ln_4).one (oc hr_16.one (oc (hr_17.mono ln_4).one (oc (hr_18.mono ln_4).one (oc (hr_19.mono ln_4).one on0))))))) fun w_13 hS' => ?_
    replace hS : Sep w0 w_13 [_, _, _, _, _, _, _, _, _, bx g_4 37 [iV t_7.1.At, v_15, v_16, v_17, v_18, v_19, v_20]] Z := hS'
    refine sg h rfl fun a h=>nx <| c_seq fun KJ_4 hKJ_4 => wp_region_lit <| mv h rfl fun a h=>s_not h rfl rfl fun a h=>mv h rfl fun a h=>?_
    obtain ⟨hc_3, H⟩ | ⟨hc_3, H⟩ := ii H
    ·cases H
    ·refine s_on h rfl rfl (nt (ef hc_3)) ?_
     obtain ⟨t_8, et_8, H⟩ := bs H
     refine s_call h rfl Try.call11 rfl (hocketlaw15_awake.calls K  t_8 w0 _ _ _ mr (hS.enter [] (by decide))  et_8) ?_
     rintro _ w_14 ⟨N_11, rfl, hS'⟩
     intro a h
     obtain ⟨N_12, hS'', le_7, ln_5⟩ := hS.call [] (by decide) rfl (l' := []) (ow := []) rfl hS'
     replace hS : Sep w0 w_14 [N_12, _, _, _, _, _, _, _, _, _] Z := hS''
     refine pt h rfl (nt (ef hc_3)) fun a h=>sg h rfl fun a h=>wpList_nil <| x_then_n (hKJ_4 _ _ ?_)
     refine wp_ret ?_
     exact r1 h 8 rfl rfl ⟨_, rfl, N_12, rfl, (hS.sel [0] (by decide))⟩
  clear hKJ_3
  refine wp_region_lit <| mv h rfl fun a h=>s_b2s h rfl U22 U5 U9 rfl (ho_1.rd (J := hp w_8) (hS.own 9) (Mem.no_le _)) mr fun a h=>mv h rfl fun a h=>s_b2s h rfl U22 U5 U9 rfl (hr_7.rd (J := hp w_8) (hS.own 8) (Mem.no_le _)) mr fun a h=>s_strEq (b := !(x_1 == t_2)) h rfl rfl rfl (.inr ⟨rfl, rfl⟩) fun a h=>mv h rfl fun a h=>?_
  obtain ⟨hc_4, H⟩ | ⟨hc_4, H⟩ := ii H
  ·refine s_on h rfl rfl (nf (bt hc_4)) <| mv h rfl fun a h=>s_on h rfl rfl (nf (bt hc_4)) <| s_not h rfl rfl fun a h=>pf h rfl (nf (bt hc_4)) fun a h=>mv h rfl fun a h=>?_
   obtain ⟨hc_5, H⟩ | ⟨hc_5, H⟩ := ii H
   ·refine s_on h rfl rfl (nf hc_5) <| s_load h rfl rfl (hS.load_agg (p := 7) (us := [iV t_1.At, v_1, v_2, v_3, v_4, v_5, v_6]) rfl U37 rfl ti37 rfl rfl) fun a h=>s_on h rfl rfl (nf hc_5) <| s_load h rfl rfl (hS.load_agg (p := 16) (us := [iV t_3.1.At, v_9, v_10, v_11, v_12, v_13, v_14]) rfl U37 rfl ti37 rfl rfl) fun a h=>s_on h rfl rfl (nf hc_5) ?_
    obtain ⟨t_9, et_9, H⟩ := bs H
    refine s_call h rfl Try.call16 rfl (hocketref15_Same.calls K t_1 _ _ _ _ _ _ t_3.1 _ _ _ _ _ _ t_9 w0 _ _ _ mr (hS.enter [] (by decide)) (hr_1.rd (hS.own_zed [] 0 (by decide)) (Mem.no_le _)) ((hr_2.mono ln_1).rd (hS.own_zed [] 1 (by decide)) ((le_2.trans (le_3.trans le_4)).trans (hS.new_zed []))) (hr_3.rd (hS.own_zed [] 2 (by decide)) (Mem.no_le _)) ((hr_4.mono ln_1).rd (hS.own_zed [] 3 (by decide)) ((le_2.trans (le_3.trans le_4)).trans (hS.new_zed []))) ((hr_5.mono ln_1).rd (hS.own_zed [] 4 (by decide)) ((le_2.trans (le_3.trans le_4)).trans (hS.new_zed []))) ((hr_6.mono ln_1).rd (hS.own_zed [] 5 (by decide)) ((le_2.trans (le_3.trans le_4)).trans (hS.new_zed []))) (hr_8.rd (hS.own_zed [] 9 (by decide)) (Mem.no_le _)) ((hr_9.mono ln_3).rd (hS.own_zed [] 10 (by decide)) (mr.trans (hS.new_zed []))) (hr_10.rd (hS.own_zed [] 11 (by decide)) (Mem.no_le _)) ((hr_11.mono ln_3).rd (hS.own_zed [] 12 (by decide)) (mr.trans (hS.new_zed []))) ((hr_12.mono ln_3).rd (hS.own_zed [] 13 (by decide)) (mr.trans (hS.new_zed []))) ((hr_13.mono ln_3).rd (hS.own_zed [] 14 (by decide)) (mr.trans (hS.new_zed []))) et_9) ?_
    rintro _ w_15 ⟨N_13, rfl, hS'⟩
    intro a h
    obtain ⟨N_14, hS'', le_8, ln_6⟩ := hS.call [] (by decide) rfl (l' := []) (ow := []) rfl hS'
    replace hS : Sep w0 w_15 [N_14, _, _, _, _, _, _, _, _, _, _, _, _, _, _, _, _] Z := hS''
    refine s_on h rfl rfl (nf hc_5) <| s_not h rfl rfl fun a h=>pf h rfl (nf hc_5) fun a h=>mv h rfl fun a h=>?_
    obtain ⟨hc_6, H⟩ | ⟨hc_6, H⟩ := ii H
    ·refine s_on h rfl rfl (nf hc_6) <| mv h rfl fun a h=>s_on h rfl rfl (nf hc_6) <| s_lenO h rfl U22 rfl hr_7 fun a h=>s_on h rfl rfl (nf hc_6) <| s_cmp (b := ((t_2.length : Int) == 0)) h rfl rfl rfl (.inl ⟨rfl, rfl⟩) fun a h=>pf h rfl (nf hc_6) fun a h=>mv h rfl fun a h=>?_
     obtain ⟨hc_7, H⟩ | ⟨hc_7, H⟩ := ii H
     ·refine of h rfl rfl (bt hc_7) fun a h=>of h rfl rfl (bt hc_7) fun a h=>of h rfl rfl (bt hc_7) fun a h=>of h rfl rfl (bt hc_7) fun a h=>of h rfl rfl (bt hc_7) fun a h=>of h rfl rfl (bt hc_7) fun a h=>pt h rfl (bt hc_7) fun a h=>wpList_nil ?_
      exact x_then_n (hJ_j_2 true H _ _ ⟨N_14, (h.to rfl), (hS.sel [0, 1000, 1001, 1002, 1003, 1004, 1005, 1006, 8, 9, 1009, 1010, 1011, 1012, 1013, 1014, 1015] (by decide)), le_8⟩)
     ·refine s_on h rfl rfl (bf hc_7) <| s_fieldAddr h rfl U37 rfl ti35 rfl rfl fun a h=>s_on h rfl rfl (bf hc_7) <| s_load h rfl rfl (hS.load_agg (p := 16) (us := [v_9, v_10, v_11, v_12, v_13]) rfl U35 rfl ti35 rfl rfl) fun a h=>s_on h rfl rfl (bf hc_7) <| s_fieldAddr h rfl U37 rfl ti35 rfl rfl fun a h=>s_on h rfl rfl (bf hc_7) <| s_load h rfl rfl (hS.load_agg (p := 7) (us := [v_1, v_2, v_3, v_4, v_5]) rfl U35 rfl ti35 rfl rfl) fun a h=>s_on h rfl rfl (bf hc_7) ?_
      obtain ⟨t_10, et_10, H⟩ := bs H
      refine s_call h rfl Try.call18 rfl (hocketref4_Same.calls K t_3.1.Machine _ _ _ _ _ t_1.Machine _ _ _ _ _ t_10 w0 _ _ _ mr (hS.enter [] (by decide)) (hr_8.rd (hS.own_zed [] 9 (by decide)) (Mem.no_le _)) ((hr_9.mono ln_3).rd (hS.own_zed [] 10 (by decide)) (le_8.trans (hS.new_zed []))) (hr_10.rd (hS.own_zed [] 11 (by decide)) (Mem.no_le _)) ((hr_11.mono ln_3).rd (hS.own_zed [] 12 (by decide)) (le_8.trans (hS.new_zed []))) ((hr_12.mono ln_3).rd (hS.own_zed [] 13 (by decide)) (le_8.trans (hS.new_zed []))) (hr_1.rd (hS.own_zed [] 0 (by decide)) (Mem.no_le _)) ((hr_2.mono ln_1).rd (hS.own_zed [] 1 (by decide)) ((le_2.trans (le_3.trans (le_4.trans le_8))).trans (hS.new_zed []))) (hr_3.rd (hS.own_zed [] 2 (by decide)) (Mem.no_le _)) ((hr_4.mono ln_1).rd (hS.own_zed [] 3 (by decide)) ((le_2.trans (le_3.trans (le_4.trans le_8))).trans (hS.new_zed []))) ((hr_5.mono ln_1).rd (hS.own_zed [] 4 (by decide)) ((le_2.trans (le_3.trans (le_4.trans le_8))).trans (hS.new_zed []))) et_10) ?_
      rintro _ w_16 ⟨N_15, rfl, hS'⟩
      intro a h
      obtain ⟨N_16, hS'', le_9, ln_7⟩ := hS.call [] (by decide) rfl (l' := []) (ow := []) rfl hS'
      replace hS : Sep w0 w_16 [N_16, _, _, _, _, _, _, _, _, _, _, _, _, _, _, _, _] Z := hS''
      refine s_on h rfl rfl (bf hc_7) <| s_not h rfl rfl fun a h=>pf h rfl (bf hc_7) fun a h=>wpList_nil ?_
      exact x_then_n (hJ_j_2 (!t_10) H _ _ ⟨N_16, (h.to rfl), (hS.sel [0, 1000, 1001, 1002, 1003, 1004, 1005, 1006, 8, 9, 1009, 1010, 1011, 1012, 1013, 1014, 1015] (by decide)), (le_8.trans le_9)⟩)
    ·refine of h rfl rfl (nt (ef hc_6)) fun a h=>of h rfl rfl (nt (ef hc_6)) fun a h=>of h rfl rfl (nt (ef hc_6)) fun a h=>pt h rfl (nt (ef hc_6)) fun a h=>mv h rfl fun a h=>oo h rfl rfl fun a h=>oo h rfl rfl fun a h=>oo h rfl rfl fun a h=>oo h rfl rfl fun a h=>oo h rfl rfl fun a h=>oo h rfl rfl fun a h=>pt h rfl rfl fun a h=>?_
     refine wpList_nil ?_
     exact x_then_n (hJ_j_2 true H _ _ ⟨N_14, (h.to rfl), (hS.sel [0, 1000, 1001, 1002, 1003, 1004, 1005, 1006, 8, 9, 1009, 1010, 1011, 1012, 1013, 1014, 1015] (by decide)), le_8⟩)
   ·refine of h rfl rfl (nt (ef hc_5)) fun a h=>of h rfl rfl (nt (ef hc_5)) fun a h=>of h rfl rfl (nt (ef hc_5)) fun a h=>of h rfl rfl (nt (ef hc_5)) fun a h=>pt h rfl (nt (ef hc_5)) fun a h=>mv h rfl fun a h=>oo h rfl rfl fun a h=>oo h rfl rfl fun a h=>oo h rfl rfl fun a h=>pt h rfl rfl fun a h=>mv h rfl fun a h=>oo h rfl rfl fun a h=>?_
    refine oo h rfl rfl fun a h=>oo h rfl rfl fun a h=>oo h rfl rfl fun a h=>oo h rfl rfl fun a h=>oo h rfl rfl fun a h=>pt h rfl rfl fun a h=>wpList_nil ?_
    exact x_then_n (hJ_j_2 true H _ _ ⟨N_7, (h.to rfl), (hS.sel [0, 1000, 1001, 1002, 1003, 1004, 1005, 1006, 8, 9, 1009, 1010, 1011, 1012, 1013, 1014, 1015] (by decide)), mr⟩)
  ·refine of h rfl rfl (nt (bf hc_4)) fun a h=>of h rfl rfl (nt (bf hc_4)) fun a h=>pt h rfl (nt (bf hc_4)) fun a h=>mv h rfl fun a h=>oo h rfl rfl fun a h=>oo h rfl rfl fun a h=>oo h rfl rfl fun a h=>oo h rfl rfl fun a h=>pt h rfl rfl fun a h=>mv h rfl fun a h=>oo h rfl rfl fun a h=>oo h rfl rfl fun a h=>?_
   refine oo h rfl rfl fun a h=>pt h rfl rfl fun a h=>mv h rfl fun a h=>oo h rfl rfl fun a h=>oo h rfl rfl fun a h=>oo h rfl rfl fun a h=>oo h rfl rfl fun a h=>oo h rfl rfl fun a h=>oo h rfl rfl fun a h=>pt h rfl rfl fun a h=>wpList_nil ?_
   exact x_then_n (hJ_j_2 true H _ _ ⟨N_7, (h.to rfl), (hS.sel [0, 1000, 1001, 1002, 1003, 1004, 1005, 1006, 8, 9, 1009, 1010, 1011, 1012, 1013, 1014, 1015] (by decide)), mr⟩)
 clear hKJ_1
 have hS' := hS.room
 replace hS : Sep w0 w_4 [_, _, _, _, _, _, _, _, _, Mem.no] Z := hS'
 refine c_block <| c_loop (fun k_1 a w_17 => ∃ (x_3 : List UInt8) (x_4 : Int) (v_21 : Value) (N_17 : Mem) (M_22 : Mem), hocketlaw15_BlobParts.L1 K t_2 (fun v => hocketlaw15_BlobParts.J1 K t_2 t_1 x3 v) k_1 (x_3, x_4) = some r ∧ Fr 128 a [(3, iV x3), (8, .bool false), (9, .pointer (some ⟨g_1, 0, none⟩)), (10, v_7), (11, v_21), (12, iV x_4)] ∧ Sep w0 w_17 [N_17, M_1, M_2, M_3, M_4, M_5, M_6, bx g_1 37 [iV t_1.At, v_1, v_2, v_3, v_4, v_5, v_6], M_7, M_22] Z ∧ N_4.le N_17 ∧ Own Kd.u8 5 M_22 Mem.no v_21 x_3) K ⟨([] : List UInt8), 0, nS, N_4, Mem.no, H, (h.to rfl), (hS.sel [0, 1, 2, 3, 4, 5, 6, 7, 8, 9] (by decide)), mr, (Own.nil Kd.u8 5 Mem.no)⟩ (fun a w h => by obtain ⟨_, _, _, _, _, H, _⟩ := h; cases (show (none : Option (Unit)) = some r from H)) ?_
 clear h hS a H
 rintro k_1 a w_17 KL_1 hKL_1 ⟨x_3, x_4, v_21, N_17, M_22, H, h, hS, le_10, ho_3⟩
 replace H : hocketlaw15_BlobParts.B1 K t_2 (fun v => hocketlaw15_BlobParts.J1 K t_2 t_1 x3 v) (hocketlaw15_BlobParts.L1 K t_2 (fun v => hocketlaw15_BlobParts.J1 K t_2 t_1 x3 v) k_1) x_3 x_4 = some r := H
 unfold hocketlaw15_BlobParts.B1 at H
 refine c_seq fun KJ_5 hKJ_5 => qr <| mv h rfl fun a h=>s_cmp (b := decide (x_4 < 400)) h rfl rfl rfl (.inr (.inr (.inl ⟨rfl, rfl⟩))) fun a h=>wpList_nil <| x_then_n ?_
 obtain ⟨hc_8, H⟩ | ⟨hc_8, H⟩ := ii H
 ·refine c_cond_t h rfl (dt hc_8) <| wp_skip <| x_then_n (hKJ_5 _ _ ?_)
  refine wp_seq <| c_block <| qr <| mv h rfl fun a h=>mv h rfl fun a h=>s_lenO h rfl U22 rfl ho_3 fun a h=>?_
  obtain ⟨t_11, et_11, H⟩ := bs H
  refine s_call h rfl Try.call14 rfl (blob_Part.calls t_2 _ (x_3.length : Int) t_11 w0 _ _ _ mr (hS.enter [] (by decide)) (hr_7.rd (hS.own_zed [] 7 (by decide)) (Mem.no_le _)) et_11) ?_
  rintro _ w_18 ⟨v_22, N_18, M_23, rfl, hS', hr_20⟩
  intro a h
  obtain ⟨N_19, hS'', le_11, ln_8⟩ := hS.call [] (by decide) rfl (l' := []) (ow := [_]) rfl hS'
  replace hS : Sep w0 w_18 [N_19, _, _, _, _, _, _, _, _, _, _] Z := hS''
  refine mv h rfl fun a h=>s_extract h rfl rfl rfl fun a h=>s_extract h rfl rfl rfl fun a h=>sg h rfl fun a h=>sg h rfl fun a h=>nx <| c_seq fun KJ_6 hKJ_6 => qr <| mv h rfl fun a h=>s_not h rfl rfl fun a h=>?_
  refine wpList_nil ?_
  replace h : Fr 128 a [(3, _), (8, _), (9, _), (10, _), (11, _), (12, _), (13, v_22), (38, .bool (!t_11.2))] := h.keep [3, 8, 9, 10, 11, 12, 13, 38]
  refine x_then_n ?_
  obtain ⟨hc_9, H⟩ | ⟨hc_9, H⟩ := ii H
  ·refine c_cond_f h rfl (nf hc_9) <| wp_skip <| x_then_n (hKJ_6 _ _ ?_)
   refine c_seq fun KJ_7 hKJ_7 => c_seq fun KJ_8 hKJ_8 => ?_
   have hJ_j_3 : ∀ (x_5 : Bool), hocketlaw15_BlobParts.J3 K x_3 t_11 (hocketlaw15_BlobParts.L1 K t_2 (fun v => hocketlaw15_BlobParts.J1 K t_2 t_1 x3 v) k_1) x_4 x_5 = some r → ∀ (a : Act) (w_19 : World), (∃ (N_20 : Mem), Fr 128 a [(3, iV x3), (8, .bool false), (9, .pointer (some ⟨g_1, 0, none⟩)), (10, v_7), (11, v_21), (12, iV x_4), (13, v_22), (61, .bool x_5)] ∧ Sep w0 w_19 [N_20, M_1, M_2, M_3, M_4, M_5, M_6, bx g_1 37 [iV t_1.At, v_1, v_2, v_3, v_4, v_5, v_6], M_7, M_22, M_23] Z ∧ N_19.le N_20) → KJ_8 a w_19 := by
    clear H h hS a
    rintro x_5 H a w_19 ⟨N_20, h, hS, le_12⟩
    unfold hocketlaw15_BlobParts.J3 at H
    refine hKJ_8 _ _ ?_
    obtain ⟨hc_10, H⟩ | ⟨hc_10, H⟩ := ii H
    ·cases H
    ·refine c_cond_f h rfl (ef hc_10) <| wp_skip <| x_then_n (hKJ_7 _ _ ?_)
     refine wp_region_lit <| mv h rfl fun a h=>mv h rfl fun a h=>?_
     obtain ⟨t_12, et_12, H⟩ := bs H
     refine s_append (J := Mem.no) (I' := Mem.no) (p := 9) 140737488355328 h rfl rfl rfl U22 ti5 rfl rfl rfl rfl hS rfl ho_3 (Src.flat flat_u8 (hr_20.src (hS.own 10))) mr mr et_12 fun w_20 v_23 M_24 hS' ho_4 a h => ?_
     replace hS : Sep w0 w_20 [_, _, _, _, _, _, _, _, _, M_24, _] Z := hS'
     refine sg h rfl fun a h=>wpList_nil <| x_block_n <| x_then_n <| wp_region_lit <| mv h rfl fun a h=>s_arith (r := w64 (x_4 + 1)) h rfl rfl rfl (.inl ⟨rfl, rfl⟩) fun a h=>sg h rfl fun a h=>wpList_nil <| x_then_n (hKL_1 _ _ ?_)
     exact ⟨t_12, w64 (x_4 + 1), v_23, N_20, M_24, H, (h.to rfl), (hS.sel [0, 1, 2, 3, 4, 5, 6, 7, 8, 9] (by decide)), (le_10.trans (le_11.trans le_12)), ho_4⟩
   clear hKJ_8
   refine wp_region_lit <| mv h rfl fun a h=>s_lenO h rfl U22 rfl hr_20 fun a h=>s_cmp (b := ((t_11.1.length : Int) == 0)) h rfl rfl rfl (.inl ⟨rfl, rfl⟩) fun a h=>mv h rfl fun a h=>?_
   obtain ⟨hc_11, H⟩ | ⟨hc_11, H⟩ := ii H
   ·refine of h rfl rfl (bt hc_11) fun a h=>of h rfl rfl (bt hc_11) fun a h=>of h rfl rfl (bt hc_11) fun a h=>pt h rfl (bt hc_11) fun a h=>mv h rfl fun a h=>oo h rfl rfl fun a h=>oo h rfl rfl fun a h=>oo h rfl rfl fun a h=>oo h rfl rfl fun a h=>s_offu h rfl rfl rfl fun a h=>s_offu h rfl rfl rfl fun a h=>s_offu h rfl rfl rfl fun a h=>?_
    refine s_offu h rfl rfl rfl fun a h=>s_offu h rfl rfl rfl fun a h=>s_offu h rfl rfl rfl fun a h=>s_offu h rfl rfl rfl fun a h=>s_offu h rfl rfl rfl fun a h=>oo h rfl rfl fun a h=>pt h rfl rfl fun a h=>wpList_nil ?_
    exact x_then_n (hJ_j_3 true H _ _ ⟨N_19, (h.to rfl), (hS.sel [0, 1, 2, 3, 4, 5, 6, 7, 8, 9, 10] (by decide)), mr⟩)
   ·refine s_on h rfl rfl (bf hc_11) <| mv h rfl fun a h=>s_on h rfl rfl (bf hc_11) <| s_lenO h rfl U22 rfl hr_20 fun a h=>s_on h rfl rfl (bf hc_11) <| s_cmp (b := decide ((t_11.1.length : Int) > 64)) h rfl rfl rfl (.inr (.inr (.inr (.inr (.inl ⟨rfl, rfl⟩))))) fun a h=>pf h rfl (bf hc_11) fun a h=>mv h rfl fun a h=>?_
    obtain ⟨hc_12, H⟩ | ⟨hc_12, H⟩ := ii H
    ·refine of h rfl rfl (dt hc_12) fun a h=>of h rfl rfl (dt hc_12) fun a h=>of h rfl rfl (dt hc_12) fun a h=>of h rfl rfl (dt hc_12) fun a h=>s_offu h rfl rfl rfl fun a h=>s_offu h rfl rfl rfl fun a h=>s_offu h rfl rfl rfl fun a h=>s_offu h rfl rfl rfl fun a h=>s_offu h rfl rfl rfl fun a h=>s_offu h rfl rfl rfl fun a h=>s_offu h rfl rfl rfl fun a h=>s_offu h rfl rfl rfl fun a h=>?_
     refine of h rfl rfl (dt hc_12) fun a h=>pt h rfl (dt hc_12) fun a h=>wpList_nil ?_
     exact x_then_n (hJ_j_3 true H _ _ ⟨N_19, (h.to rfl), (hS.sel [0, 1, 2, 3, 4, 5, 6, 7, 8, 9, 10] (by decide)), mr⟩)
    ·refine s_on h rfl rfl (df hc_12) <| mv h rfl fun a h=>s_on h rfl rfl (df hc_12) <| s_lenO h rfl U22 rfl hr_20 fun a h=>s_on h rfl rfl (df hc_12) <| s_cmp (b := decide ((t_11.1.length : Int) < 64)) h rfl rfl rfl (.inr (.inr (.inl ⟨rfl, rfl⟩))) fun a h=>s_on h rfl rfl (df hc_12) <| mv h rfl fun a h=>?_
     obtain ⟨hc_13, H⟩ | ⟨hc_13, H⟩ := ii H
     ·refine s_on h rfl rfl (dt hc_13) <| mv h rfl fun a h=>s_on h rfl rfl (dt hc_13) <| s_lenO h rfl U22 rfl ho_3 fun a h=>s_on h rfl rfl (dt hc_13) <| mv h rfl fun a h=>s_on h rfl rfl (dt hc_13) <| s_lenO h rfl U22 rfl hr_20 fun a h=>s_on h rfl rfl (dt hc_13) <| s_arith (r := w64 ((x_3.length : Int) + (t_11.1.length : Int))) h rfl rfl rfl (.inl ⟨rfl, rfl⟩) fun a h=>s_on h rfl rfl (dt hc_13) <| mv h rfl fun a h=>?_
      refine s_on h rfl rfl (dt hc_13) <| s_lenO h rfl U22 rfl hr_7 fun a h=>s_on h rfl rfl (dt hc_13) <| s_cmp (b := ((w64 ((x_3.length : Int) + (t_11.1.length : Int))) != (t_2.length : Int))) h rfl rfl rfl (.inr (.inl ⟨rfl, rfl⟩)) fun a h=>s_on h rfl rfl (df hc_12) <| pt h rfl (dt hc_13) fun a h=>pf h rfl (df hc_12) fun a h=>wpList_nil ?_
      exact x_then_n (hJ_j_3 ((w64 ((x_3.length : Int) + (t_11.1.length : Int))) != (t_2.length : Int)) H _ _ ⟨N_19, (h.to rfl), (hS.sel [0, 1, 2, 3, 4, 5, 6, 7, 8, 9, 10] (by decide)), mr⟩)
     ·refine of h rfl rfl (df hc_13) fun a h=>of h rfl rfl (df hc_13) fun a h=>of h rfl rfl (df hc_13) fun a h=>of h rfl rfl (df hc_13) fun a h=>of h rfl rfl (df hc_13) fun a h=>of h rfl rfl (df hc_13) fun a h=>of h rfl rfl (df hc_13) fun a h=>of h rfl rfl (df hc_13) fun a h=>s_on h rfl rfl (df hc_12) <| pf h rfl (df hc_13) fun a h=>pf h rfl (df hc_12) fun a h=>wpList_nil ?_
      exact x_then_n (hJ_j_3 false H _ _ ⟨N_19, (h.to rfl), (hS.sel [0, 1, 2, 3, 4, 5, 6, 7, 8, 9, 10] (by decide)), mr⟩)
  ·refine c_cond_t h rfl (nt (ef hc_9)) <| wp_exit (x_then_x (x_block_x rfl (x_then_x (x_then_x (x_block_t ?_)))))
   exact x_then_n (hJ_j_1 x_3 H _ _ ⟨v_21, N_19, M_22, (h.to rfl), (hS.sel [0, 1, 2, 3, 4, 5, 6, 7, 8, 9] (by decide)), (le_10.trans le_11), ho_3⟩)
 ·refine c_cond_f h rfl (df hc_8) <| wp_exit (x_then_x (x_then_x (x_block_t ?_)))
  exact x_then_n (hJ_j_1 x_3 H _ _ ⟨v_21, N_17, M_22, (h.to rfl), (hS.sel [0, 1, 2, 3, 4, 5, 6, 7, 8, 9] (by decide)), le_10, ho_3⟩)


end Go.Proofs
