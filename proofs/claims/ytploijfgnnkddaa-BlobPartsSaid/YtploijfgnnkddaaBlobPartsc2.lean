/- What the calls do: each function once. -/
import Derived.Test.YtploijfgnnkddaaBlobPartsc1
namespace Go.Proofs
open Go.Gp
set_option linter.unusedVariables false
set_option maxHeartbeats 4000000 in
set_option maxRecDepth 20000 in
theorem hocketref4_Write.calls (x0 : List UInt8) (p0_0 : Value) (x1 : List UInt8) (p1_1 : Value) (r : (List UInt8) × api_Result) (w0 w : World) (Z A : Mem) (hA : A.le Z) (hS : Sep w0 w [] Z) (hp0_0 : Rd Kd.u8 A p0_0 x0) (hp1_1 : Rd Kd.u8 A p1_1 x1)
    (H : hocketref4_Write.f x0 x1 = some r) :
    Calls Try.prog 105 [p0_0, p1_1].toArray w (Ret fun v w' => ∃ (u0 : Value) (u1 : Value) (N : Mem) (M0 : Mem) (M1 : Mem), v = .tuple [u0, .agg (E91 r.2 u1).toArray].toArray ∧ Sep w0 w' [N, M0, M1] Z ∧ Own Kd.u8 5 M0 Mem.no u0 r.1 ∧ Own Kd.u8 5 M1 Mem.no u1 r.2.Val) := by
 unfold hocketref4_Write.f at H
 refine f_enter _ Try.func105 rfl Try.ntmps105 rfl fun a h=>?_
 replace h : Fr 15 a [(0, p0_0), (1, p1_1)] := h
 replace hS := hS.start
 refine qr <| sg h rfl fun a h=>v_alloc h rfl ti91 hS fun w_1 g_1 hS' a h => ?_
 replace hS : Sep w0 w_1 [_, bx g_1 91 [iV 0, nS, iV 0]] Z := hS'
 refine nx <| c_seq fun KJ_1 hKJ_1 => qr <| mv h rfl fun a h=>s_len h rfl U22 rfl hp1_1 fun a h=>s_cmp (b := decide ((x1.length : Int) > 16)) h rfl rfl rfl (.inr (.inr (.inr (.inr (.inl ⟨rfl, rfl⟩))))) fun a h=>wpList_nil <| x_then_n ?_
 obtain ⟨hc_1, H⟩ | ⟨hc_1, H⟩ := ii H
 ·refine c_cond_t h rfl (dt hc_1) <| qr <| mv h rfl fun a h=>?_
  obtain ⟨t_1, et_1, H⟩ := bs H
  refine s_call h rfl Try.call101 rfl (hocketref4_own.calls x0 _ t_1 w0 _ _ _ mr (hS.enter [] (by decide)) (hp0_0.mono (hA.trans (hS.le_zed []))) et_1) ?_
  rintro v_1 w_2 ⟨_, N_1, M_1, rfl, hS', hr_1⟩
  intro a h
  obtain ⟨N_2, hS'', le_1, ln_1⟩ := hS.call [] (by decide) rfl (l' := []) (ow := [_]) rfl hS'
  replace hS : Sep w0 w_2 [N_2, _, _] Z := hS''
  obtain ⟨t_2, et_2, H⟩ := bs H
  refine s_call h rfl Try.call98 rfl (hocketref4_bad.calls 1 t_2 w0 _ _ _ mr (hS.enter [] (by decide))  et_2) ?_
  rintro _ w_3 ⟨v_2, N_3, M_2, rfl, hS', hr_2⟩
  intro a h
  obtain ⟨N_4, hS'', le_2, ln_2⟩ := hS.call [] (by decide) rfl (l' := []) (ow := [_]) rfl hS'
  replace hS : Sep w0 w_3 [N_4, _, _, _] Z := hS''
  refine sg h rfl fun a h=>?_
  refine sto 1 h rfl rfl hS rfl ti91 rfl rfl rfl (oa 1 rfl (oc hr_2.one (oz rfl))) fun w_4 hS' => ?_
  replace hS : Sep w0 w_4 [_, bx g_1 91 (E91 t_2 v_2), _, _] Z := hS'
  refine nx <| wp_ret (x_then_r ?_)
  obtain rfl := Option.some.inj H
  exact f_ret h (rs := [.tmp 4, .cell 5 91]) rfl (.tmp rfl (.cell rfl (hS.load_agg (p := 1) (us := (E91 t_2 v_2)) rfl U91 rfl ti91 rfl rfl) .nil)) ⟨_, rfl, v_1, v_2, N_4, M_1, M_2, rfl, (hS.sel [0, 2, 3] (by decide)), hr_1, hr_2⟩
 ·refine c_cond_f h rfl (df hc_1) <| wp_skip <| x_then_n (hKJ_1 _ _ ?_)
  refine qr <| mv h rfl fun a h=>?_
  obtain ⟨t_3, et_3, H⟩ := bs H
  refine s_call h rfl Try.call101 rfl (hocketref4_own.calls x1 _ t_3 w0 _ _ _ mr (hS.enter [] (by decide)) (hp1_1.mono (hA.trans (hS.le_zed []))) et_3) ?_
  rintro v_3 w_5 ⟨_, N_5, M_3, rfl, hS', hr_3⟩
  intro a h
  obtain ⟨N_6, hS'', le_3, ln_3⟩ := hS.call [] (by decide) rfl (l' := []) (ow := [_]) rfl hS'
  replace hS : Sep w0 w_5 [N_6, _, _] Z := hS''
  refine s_build h rfl ti91 pl91 rfl .nil (cs := [iV 0, nS, iV 0]) (by kernel_rfl) fun a h=>sg h rfl fun a h=>?_
  refine sto 1 h rfl rfl hS rfl ti91 rfl rfl rfl (oz rfl) fun w_6 hS' => ?_
  replace hS : Sep w0 w_6 [_, _, _] Z := hS'
  refine nx <| wp_ret ?_
  have hS' := hS.room
  replace hS : Sep w0 w_6 [_, _, _, Mem.no] Z := hS'
  obtain rfl := Option.some.inj H
  exact f_ret h (rs := [.tmp 4, .cell 5 91]) rfl (.tmp rfl (.cell rfl (hS.load_agg (p := 1) (us := [iV 0, nS, iV 0]) rfl U91 rfl ti91 rfl rfl) .nil)) ⟨_, rfl, v_3, nS, N_6, M_3, Mem.no, rfl, (hS.sel [0, 2, 3] (by decide)), hr_3, (Own.nil Kd.u8 5 Mem.no)⟩

set_option maxHeartbeats 4000000 in
set_option maxRecDepth 20000 in
theorem hocketref4_Cas.calls (x0 : List UInt8) (p0_0 : Value) (x1 : List UInt8) (p1_1 : Value) (x2 : List UInt8) (p2_2 : Value) (r : (List UInt8) × api_Result) (w0 w : World) (Z A : Mem) (hA : A.le Z) (hS : Sep w0 w [] Z) (hp0_0 : Rd Kd.u8 A p0_0 x0) (hp1_1 : Rd Kd.u8 A p1_1 x1) (hp2_2 : Rd Kd.u8 A p2_2 x2)
    (H : hocketref4_Cas.f x0 x1 x2 = some r) :
    Calls Try.prog 106 [p0_0, p1_1, p2_2].toArray w (Ret fun v w' => ∃ (u0 : Value) (u1 : Value) (N : Mem) (M0 : Mem) (M1 : Mem), v = .tuple [u0, .agg (E91 r.2 u1).toArray].toArray ∧ Sep w0 w' [N, M0, M1] Z ∧ Own Kd.u8 5 M0 Mem.no u0 r.1 ∧ Own Kd.u8 5 M1 Mem.no u1 r.2.Val) := by
 unfold hocketref4_Cas.f at H
 refine f_enter _ Try.func106 rfl Try.ntmps106 rfl fun a h=>?_
 replace h : Fr 27 a [(0, p0_0), (1, p1_1), (2, p2_2)] := h
 replace hS := hS.start
 refine qr <| sg h rfl fun a h=>v_alloc h rfl ti91 hS fun w_1 g_1 hS' a h => ?_
 replace hS : Sep w0 w_1 [_, bx g_1 91 [iV 0, nS, iV 0]] Z := hS'
 refine nx <| c_seq fun KJ_1 hKJ_1 => qr <| mv h rfl fun a h=>s_len h rfl U22 rfl hp2_2 fun a h=>s_cmp (b := decide ((x2.length : Int) > 16)) h rfl rfl rfl (.inr (.inr (.inr (.inr (.inl ⟨rfl, rfl⟩))))) fun a h=>wpList_nil <| x_then_n ?_
 obtain ⟨hc_1, H⟩ | ⟨hc_1, H⟩ := ii H
 ·refine c_cond_t h rfl (dt hc_1) <| qr <| mv h rfl fun a h=>?_
  obtain ⟨t_1, et_1, H⟩ := bs H
  refine s_call h rfl Try.call101 rfl (hocketref4_own.calls x0 _ t_1 w0 _ _ _ mr (hS.enter [] (by decide)) (hp0_0.mono (hA.trans (hS.le_zed []))) et_1) ?_
  rintro v_1 w_2 ⟨_, N_1, M_1, rfl, hS', hr_1⟩
  intro a h
  obtain ⟨N_2, hS'', le_1, ln_1⟩ := hS.call [] (by decide) rfl (l' := []) (ow := [_]) rfl hS'
  replace hS : Sep w0 w_2 [N_2, _, _] Z := hS''
  obtain ⟨t_2, et_2, H⟩ := bs H
  refine s_call h rfl Try.call98 rfl (hocketref4_bad.calls 1 t_2 w0 _ _ _ mr (hS.enter [] (by decide))  et_2) ?_
  rintro _ w_3 ⟨v_2, N_3, M_2, rfl, hS', hr_2⟩
  intro a h
  obtain ⟨N_4, hS'', le_2, ln_2⟩ := hS.call [] (by decide) rfl (l' := []) (ow := [_]) rfl hS'
  replace hS : Sep w0 w_3 [N_4, _, _, _] Z := hS''
  refine sg h rfl fun a h=>?_
  refine sto 1 h rfl rfl hS rfl ti91 rfl rfl rfl (oa 1 rfl (oc hr_2.one (oz rfl))) fun w_4 hS' => ?_
  replace hS : Sep w0 w_4 [_, bx g_1 91 (E91 t_2 v_2), _, _] Z := hS'
  refine nx <| wp_ret (x_then_r ?_)
  obtain rfl := Option.some.inj H
  exact f_ret h (rs := [.tmp 6, .cell 7 91]) rfl (.tmp rfl (.cell rfl (hS.load_agg (p := 1) (us := (E91 t_2 v_2)) rfl U91 rfl ti91 rfl rfl) .nil)) ⟨_, rfl, v_1, v_2, N_4, M_1, M_2, rfl, (hS.sel [0, 2, 3] (by decide)), hr_1, hr_2⟩
 ·refine c_cond_f h rfl (df hc_1) <| wp_skip <| x_then_n (hKJ_1 _ _ ?_)
  refine c_seq fun KJ_2 hKJ_2 => qr <| mv h rfl fun a h=>s_b2s h rfl U22 U5 U9 rfl hp0_0 (hA.trans hS.old) fun a h=>mv h rfl fun a h=>s_b2s h rfl U22 U5 U9 rfl hp1_1 (hA.trans hS.old) fun a h=>s_strEq (b := !(x0 == x1)) h rfl rfl rfl (.inr ⟨rfl, rfl⟩) fun a h=>wpList_nil <| x_then_n ?_
  obtain ⟨hc_2, H⟩ | ⟨hc_2, H⟩ := ii H
  ·refine c_cond_f h rfl (nf (bt hc_2)) <| wp_skip <| x_then_n (hKJ_2 _ _ ?_)
   refine qr <| mv h rfl fun a h=>?_
   obtain ⟨t_3, et_3, H⟩ := bs H
   refine s_call h rfl Try.call101 rfl (hocketref4_own.calls x2 _ t_3 w0 _ _ _ mr (hS.enter [] (by decide)) (hp2_2.mono (hA.trans (hS.le_zed []))) et_3) ?_
   rintro v_3 w_5 ⟨_, N_5, M_3, rfl, hS', hr_3⟩
   intro a h
   obtain ⟨N_6, hS'', le_3, ln_3⟩ := hS.call [] (by decide) rfl (l' := []) (ow := [_]) rfl hS'
   replace hS : Sep w0 w_5 [N_6, _, _] Z := hS''
   refine s_build h rfl ti91 pl91 rfl .nil (cs := [iV 0, nS, iV 0]) (by kernel_rfl) fun a h=>sg h rfl fun a h=>?_
   refine sto 1 h rfl rfl hS rfl ti91 rfl rfl rfl (oz rfl) fun w_6 hS' => ?_
   replace hS : Sep w0 w_6 [_, _, _] Z := hS'
   refine wpList_nil ?_
   replace h : Fr 27 a [(6, v_3), (7, .pointer (some ⟨g_1, 0, none⟩))] := h.keep [6, 7]
   refine x_then_n <| wp_ret ?_
   have hS' := hS.room
   replace hS : Sep w0 w_6 [_, _, _, Mem.no] Z := hS'
   obtain rfl := Option.some.inj H
   exact f_ret h (rs := [.tmp 6, .cell 7 91]) rfl (.tmp rfl (.cell rfl (hS.load_agg (p := 1) (us := [iV 0, nS, iV 0]) rfl U91 rfl ti91 rfl rfl) .nil)) ⟨_, rfl, v_3, nS, N_6, M_3, Mem.no, rfl, (hS.sel [0, 2, 3] (by decide)), hr_3, (Own.nil Kd.u8 5 Mem.no)⟩
  ·refine c_cond_t h rfl (nt (bf hc_2)) <| qr <| mv h rfl fun a h=>?_
   obtain ⟨t_4, et_4, H⟩ := bs H
   refine s_call h rfl Try.call101 rfl (hocketref4_own.calls x0 _ t_4 w0 _ _ _ mr (hS.enter [] (by decide)) (hp0_0.mono (hA.trans (hS.le_zed []))) et_4) ?_
   rintro v_4 w_7 ⟨_, N_7, M_4, rfl, hS', hr_4⟩
   intro a h
   obtain ⟨N_8, hS'', le_4, ln_4⟩ := hS.call [] (by decide) rfl (l' := []) (ow := [_]) rfl hS'
   replace hS : Sep w0 w_7 [N_8, _, _] Z := hS''
   refine mv h rfl fun a h=>?_
   obtain ⟨t_5, et_5, H⟩ := bs H
   refine s_call h rfl Try.call101 rfl (hocketref4_own.calls x0 _ t_5 w0 _ _ _ mr (hS.enter [] (by decide)) (hp0_0.mono (hA.trans (hS.le_zed []))) et_5) ?_
   rintro v_5 w_8 ⟨_, N_9, M_5, rfl, hS', hr_5⟩
   intro a h
   obtain ⟨N_10, hS'', le_5, ln_5⟩ := hS.call [] (by decide) rfl (l' := []) (ow := [_]) rfl hS'
   replace hS : Sep w0 w_8 [N_10, _, _, _] Z := hS''
   refine s_build h rfl ti91 pl91 rfl (.cons rfl (.cons hr_5.cells .nil)) (cs := [iV 2, v_5, iV 0]) (by kernel_rfl) fun a h=>sg h rfl fun a h=>?_
   refine sto 1 h rfl rfl hS rfl ti91 rfl rfl rfl (oa 1 rfl (oc hr_5.one (oz rfl))) fun w_9 hS' => ?_
   replace hS : Sep w0 w_9 [_, bx g_1 91 [iV 2, v_5, _], _, _] Z := hS'
   refine wpList_nil ?_
   replace h : Fr 27 a [(2, _), (6, v_4), (7, .pointer (some ⟨g_1, 0, none⟩))] := h.keep [2, 6, 7]
   refine x_then_n <| wp_ret (x_then_r ?_)
   obtain rfl := Option.some.inj H
   exact f_ret h (rs := [.tmp 6, .cell 7 91]) rfl (.tmp rfl (.cell rfl (hS.load_agg (p := 1) (us := [iV 2, v_5, iV 0]) rfl U91 rfl ti91 rfl rfl) .nil)) ⟨_, rfl, v_4, v_5, N_10, M_4, M_5, rfl, (hS.sel [0, 2, 3] (by decide)), hr_4, hr_5⟩

set_option maxHeartbeats 4000000 in
set_option maxRecDepth 20000 in
theorem hocketref4_Push.calls (K : Nat) (x0 : List (List UInt8)) (p0_0 : Value) (x1 : List UInt8) (p1_1 : Value) (r : (List (List UInt8)) × api_Result) (w0 w : World) (Z A : Mem) (hA : A.le Z) (hS : Sep w0 w [] Z) (hp0_0 : Rd (Kd.slice Kd.u8) A p0_0 x0) (hp1_1 : Rd Kd.u8 A p1_1 x1)
    (H : hocketref4_Push.f K x0 x1 = some r) :
    Calls Try.prog 107 [p0_0, p1_1].toArray w (Ret fun v w' => ∃ (u0 : Value) (u1 : Value) (N : Mem) (M0 : Mem) (M1 : Mem), v = .tuple [u0, .agg (E91 r.2 u1).toArray].toArray ∧ Sep w0 w' [N, M0, M1] Z ∧ Own (Kd.slice Kd.u8) 22 M0 N u0 r.1 ∧ Own Kd.u8 5 M1 Mem.no u1 r.2.Val) := by
 unfold hocketref4_Push.f at H
 refine f_enter _ Try.func107 rfl Try.ntmps107 rfl fun a h=>?_
 replace h : Fr 28 a [(0, p0_0), (1, p1_1)] := h
 replace hS := hS.start
 refine qr <| sg h rfl fun a h=>v_alloc h rfl ti91 hS fun w_1 g_1 hS' a h => ?_
 replace hS : Sep w0 w_1 [_, bx g_1 91 [iV 0, nS, iV 0]] Z := hS'
 refine nx <| c_seq fun KJ_1 hKJ_1 => qr <| mv h rfl fun a h=>s_len h rfl U22 rfl hp1_1 fun a h=>s_cmp (b := decide ((x1.length : Int) > 16)) h rfl rfl rfl (.inr (.inr (.inr (.inr (.inl ⟨rfl, rfl⟩))))) fun a h=>wpList_nil <| x_then_n ?_
 obtain ⟨hc_1, H⟩ | ⟨hc_1, H⟩ := ii H
 ·refine c_cond_t h rfl (dt hc_1) <| qr <| mv h rfl fun a h=>?_
  obtain ⟨t_1, et_1, H⟩ := bs H
  refine s_call h rfl Try.call102 rfl (hocketref4_rows.calls K x0 _ t_1 w0 _ _ _ mr (hS.enter [] (by decide)) (hp0_0.mono (hA.trans (hS.le_zed []))) et_1) ?_
  rintro v_1 w_2 ⟨_, N_1, M_1, rfl, hS', hr_1⟩
  intro a h
  obtain ⟨N_2, hS'', le_1, ln_1⟩ := hS.call [] (by decide) rfl (l' := []) (ow := [_]) rfl hS'
  replace hS : Sep w0 w_2 [N_2, _, _] Z := hS''
  obtain ⟨t_2, et_2, H⟩ := bs H
  refine s_call h rfl Try.call98 rfl (hocketref4_bad.calls 1 t_2 w0 _ _ _ mr (hS.enter [] (by decide))  et_2) ?_
  rintro _ w_3 ⟨v_2, N_3, M_2, rfl, hS', hr_2⟩
  intro a h
  obtain ⟨N_4, hS'', le_2, ln_2⟩ := hS.call [] (by decide) rfl (l' := []) (ow := [_]) rfl hS'
  replace hS : Sep w0 w_3 [N_4, _, _, _] Z := hS''
  refine sg h rfl fun a h=>?_
  refine sto 1 h rfl rfl hS rfl ti91 rfl rfl rfl (oa 1 rfl (oc hr_2.one (oz rfl))) fun w_4 hS' => ?_
  replace hS : Sep w0 w_4 [_, bx g_1 91 (E91 t_2 v_2), _, _] Z := hS'
  refine nx <| wp_ret (x_then_r ?_)
  obtain rfl := Option.some.inj H
  exact f_ret h (rs := [.tmp 4, .cell 5 91]) rfl (.tmp rfl (.cell rfl (hS.load_agg (p := 1) (us := (E91 t_2 v_2)) rfl U91 rfl ti91 rfl rfl) .nil)) ⟨_, rfl, v_1, v_2, N_4, M_1, M_2, rfl, (hS.sel [0, 2, 3] (by decide)), ((hr_1.mono ln_1).mono le_2), hr_2⟩
 ·refine c_cond_f h rfl (df hc_1) <| wp_skip <| x_then_n (hKJ_1 _ _ ?_)
  refine c_seq fun KJ_2 hKJ_2 => qr <| mv h rfl fun a h=>s_len h rfl U28 rfl hp0_0 fun a h=>s_cmp (b := decide ((x0.length : Int) ≥ 8)) h rfl rfl rfl (.inr (.inr (.inr (.inr (.inr ⟨rfl, rfl⟩))))) fun a h=>wpList_nil <| x_then_n ?_
  obtain ⟨hc_2, H⟩ | ⟨hc_2, H⟩ := ii H
  ·refine c_cond_t h rfl (dt hc_2) <| qr <| mv h rfl fun a h=>?_
   obtain ⟨t_3, et_3, H⟩ := bs H
   refine s_call h rfl Try.call102 rfl (hocketref4_rows.calls K x0 _ t_3 w0 _ _ _ mr (hS.enter [] (by decide)) (hp0_0.mono (hA.trans (hS.le_zed []))) et_3) ?_
   rintro v_3 w_5 ⟨_, N_5, M_3, rfl, hS', hr_3⟩
   intro a h
   obtain ⟨N_6, hS'', le_3, ln_3⟩ := hS.call [] (by decide) rfl (l' := []) (ow := [_]) rfl hS'
   replace hS : Sep w0 w_5 [N_6, _, _] Z := hS''
   obtain ⟨t_4, et_4, H⟩ := bs H
   refine s_call h rfl Try.call98 rfl (hocketref4_bad.calls 3 t_4 w0 _ _ _ mr (hS.enter [] (by decide))  et_4) ?_
   rintro _ w_6 ⟨v_4, N_7, M_4, rfl, hS', hr_4⟩
   intro a h
   obtain ⟨N_8, hS'', le_4, ln_4⟩ := hS.call [] (by decide) rfl (l' := []) (ow := [_]) rfl hS'
   replace hS : Sep w0 w_6 [N_8, _, _, _] Z := hS''
   refine sg h rfl fun a h=>?_
   refine sto 1 h rfl rfl hS rfl ti91 rfl rfl rfl (oa 1 rfl (oc hr_4.one (oz rfl))) fun w_7 hS' => ?_
   replace hS : Sep w0 w_7 [_, bx g_1 91 (E91 t_4 v_4), _, _] Z := hS'
   refine wpList_nil ?_
   replace h : Fr 28 a [(0, _), (1, _), (4, v_3), (5, .pointer (some ⟨g_1, 0, none⟩))] := h.keep [0, 1, 4, 5]
   refine x_then_n <| wp_ret (x_then_r ?_)
   obtain rfl := Option.some.inj H
   exact f_ret h (rs := [.tmp 4, .cell 5 91]) rfl (.tmp rfl (.cell rfl (hS.load_agg (p := 1) (us := (E91 t_4 v_4)) rfl U91 rfl ti91 rfl rfl) .nil)) ⟨_, rfl, v_3, v_4, N_8, M_3, M_4, rfl, (hS.sel [0, 2, 3] (by decide)), ((hr_3.mono ln_3).mono le_4), hr_4⟩
  ·refine c_cond_f h rfl (df hc_2) <| wp_skip <| x_then_n (hKJ_2 _ _ ?_)
   refine qr <| mv h rfl fun a h=>?_
   obtain ⟨t_5, et_5, H⟩ := bs H
   refine s_call h rfl Try.call102 rfl (hocketref4_rows.calls K x0 _ t_5 w0 _ _ _ mr (hS.enter [] (by decide)) (hp0_0.mono (hA.trans (hS.le_zed []))) et_5) ?_
   rintro v_5 w_8 ⟨_, N_9, M_5, rfl, hS', hr_5⟩
   intro a h
   obtain ⟨N_10, hS'', le_5, ln_5⟩ := hS.call [] (by decide) rfl (l' := []) (ow := [_]) rfl hS'
   replace hS : Sep w0 w_8 [N_10, _, _] Z := hS''
   refine mv h rfl fun a h=>?_
   obtain ⟨t_6, et_6, H⟩ := bs H
   refine s_call h rfl Try.call101 rfl (hocketref4_own.calls x1 _ t_6 w0 _ _ _ mr (hS.enter [] (by decide)) (hp1_1.mono (hA.trans (hS.le_zed []))) et_6) ?_
   rintro v_6 w_9 ⟨_, N_11, M_6, rfl, hS', hr_6⟩
   intro a h
   obtain ⟨N_12, hS'', le_6, ln_6⟩ := hS.call [] (by decide) rfl (l' := []) (ow := [_]) rfl hS'
   replace hS : Sep w0 w_9 [N_12, _, _, _] Z := hS''
   obtain ⟨N_13, hS', le_7, lo_1⟩ := hS.freeze 2 rfl
   replace hS : Sep w0 w_9 [N_13, _, _, Mem.no] Z := hS'
   have hq_1 : Reps (Kd.slice Kd.u8) N_13 ([t_6] : List (List UInt8)) _ := ((Reps.one (d := (Kd.slice Kd.u8)) (x := t_6) ⟨_, rfl, (hr_6.rd lo_1 (Mem.no_le _))⟩).append (Reps.nil (Kd.slice Kd.u8) _))
   refine s_buildSlice h rfl U28 ti22 rfl rfl rfl (.cons (hr_6.rd lo_1 (Mem.no_le _)).cells .nil) rfl rfl rfl hS hq_1 rfl fun w_10 v_7 M_7 hS' ho_1 a h => ?_
   replace hS : Sep w0 w_10 [_, _, _, _, M_7] Z := hS'
   obtain ⟨t_7, et_7, H⟩ := bs H
   refine s_append (J := N_13) (I' := N_13) (p := 2) 5864062014805 h rfl rfl rfl U28 ti22 rfl rfl rfl rfl hS rfl (hr_5.mono ln_5) (ho_1.src (hS.own 4)) (le_6.trans le_7) mr et_7 fun w_11 v_8 M_8 hS' ho_2 a h => ?_
   replace hS : Sep w0 w_11 [_, _, M_8, _, _] Z := hS'
   refine mv h rfl fun a h=>s_len h rfl U28 rfl hp0_0 fun a h=>s_arith (r := w64 ((x0.length : Int) + 1)) h rfl rfl rfl (.inl ⟨rfl, rfl⟩) fun a h=>s_build h rfl ti91 pl91 rfl (.cons rfl .nil) (cs := [iV 0, nS, iV (w64 ((x0.length : Int) + 1))]) (by kernel_rfl) fun a h=>sg h rfl fun a h=>?_
   refine sto 1 h rfl rfl hS rfl ti91 rfl rfl rfl (oz rfl) fun w_12 hS' => ?_
   replace hS : Sep w0 w_12 [_, bx g_1 91 [_, _, iV (w64 ((x0.length : Int) + 1))], _, _, _] Z := hS'
   refine wpList_nil ?_
   replace h : Fr 28 a [(4, v_8), (5, .pointer (some ⟨g_1, 0, none⟩))] := h.keep [4, 5]
   refine x_then_n <| wp_ret ?_
   have hS' := hS.room
   replace hS : Sep w0 w_12 [_, _, _, _, _, Mem.no] Z := hS'
   obtain rfl := Option.some.inj H
   exact f_ret h (rs := [.tmp 4, .cell 5 91]) rfl (.tmp rfl (.cell rfl (hS.load_agg (p := 1) (us := [iV 0, nS, iV (w64 ((x0.length : Int) + 1))]) rfl U91 rfl ti91 rfl rfl) .nil)) ⟨_, rfl, v_8, nS, N_13, M_8, Mem.no, rfl, (hS.sel [0, 2, 5] (by decide)), (ho_2.mono mr), (Own.nil Kd.u8 5 Mem.no)⟩

set_option maxHeartbeats 4000000 in
set_option maxRecDepth 20000 in
theorem hocketref4_Pop.calls (K : Nat) (x0 : List (List UInt8)) (p0_0 : Value) (r : (List (List UInt8)) × api_Result) (w0 w : World) (Z A : Mem) (hA : A.le Z) (hS : Sep w0 w [] Z) (hp0_0 : Rd (Kd.slice Kd.u8) A p0_0 x0)
    (H : hocketref4_Pop.f K x0 = some r) :
    Calls Try.prog 108 [p0_0].toArray w (Ret fun v w' => ∃ (u0 : Value) (u1 : Value) (N : Mem) (M0 : Mem) (M1 : Mem), v = .tuple [u0, .agg (E91 r.2 u1).toArray].toArray ∧ Sep w0 w' [N, M0, M1] Z ∧ Own (Kd.slice Kd.u8) 22 M0 N u0 r.1 ∧ Own Kd.u8 5 M1 Mem.no u1 r.2.Val) := by
 unfold hocketref4_Pop.f at H
 refine f_enter _ Try.func108 rfl Try.ntmps108 rfl fun a h=>?_
 replace h : Fr 16 a [(0, p0_0)] := h
 replace hS := hS.start
 refine qr <| sg h rfl fun a h=>v_alloc h rfl ti91 hS fun w_1 g_1 hS' a h => ?_
 replace hS : Sep w0 w_1 [_, bx g_1 91 [iV 0, nS, iV 0]] Z := hS'
 refine nx <| c_seq fun KJ_1 hKJ_1 => qr <| mv h rfl fun a h=>s_len h rfl U28 rfl hp0_0 fun a h=>s_cmp (b := ((x0.length : Int) == 0)) h rfl rfl rfl (.inl ⟨rfl, rfl⟩) fun a h=>wpList_nil <| x_then_n ?_
 obtain ⟨hc_1, H⟩ | ⟨hc_1, H⟩ := ii H
 ·refine c_cond_t h rfl (bt hc_1) <| wp_seq <| wp_region_lit ?_
  obtain ⟨t_1, et_1, H⟩ := bs H
  refine s_call h rfl Try.call98 rfl (hocketref4_bad.calls 4 t_1 w0 _ _ _ mr (hS.enter [] (by decide))  et_1) ?_
  rintro _ w_2 ⟨v_1, N_1, M_1, rfl, hS', hr_1⟩
  intro a h
  obtain ⟨N_2, hS'', le_1, ln_1⟩ := hS.call [] (by decide) rfl (l' := []) (ow := [_]) rfl hS'
  replace hS : Sep w0 w_2 [N_2, _, _] Z := hS''
  refine sg h rfl fun a h=>?_
  refine sto 1 h rfl rfl hS rfl ti91 rfl rfl rfl (oa 1 rfl (oc hr_1.one (oz rfl))) fun w_3 hS' => ?_
  replace hS : Sep w0 w_3 [_, bx g_1 91 (E91 t_1 v_1), _] Z := hS'
  refine nx <| wp_ret (x_then_r ?_)
  have hS' := hS.room
  replace hS : Sep w0 w_3 [_, _, _, Mem.no] Z := hS'
  obtain rfl := Option.some.inj H
  exact f_ret h (rs := [.tmp 2, .cell 3 91]) rfl (.tmp rfl (.cell rfl (hS.load_agg (p := 1) (us := (E91 t_1 v_1)) rfl U91 rfl ti91 rfl rfl) .nil)) ⟨_, rfl, nS, v_1, N_2, Mem.no, M_1, rfl, (hS.sel [0, 3, 2] (by decide)), ((Own.nil (Kd.slice Kd.u8) 22 N_2).mono mr), hr_1⟩
 ·refine c_cond_f h rfl (bf hc_1) <| wp_skip <| x_then_n (hKJ_1 _ _ ?_)
  refine c_seq fun KJ_2 hKJ_2 => h_begin (S := fun w => Sep w0 w [Mem.no, Mem.no] Z) 10 (by kernel_rfl) rfl (bA 10 0) (by kernel_rfl) hS fun w_4 hS => ?_
  refine t_take 0 (bA 10 1) rfl rfl rfl rfl h (hS.sub (.cons mr (.zz .ii))) (v := p0_0) (fun w hS => r_move h rfl) fun a h=>?_
  obtain ⟨t_2, et_2, H⟩ := bs H
  refine t_takeE 1 (bA 10 3) rfl rfl rfl rfl h (hS.sub (.cons mr (.zz .ii))) (f := fun v => v) (r_slice h U28 ti22 rfl rfl hp0_0 rfl rfl et_2) fun v_2 hr_2 a h => t_take 3 (bA 10 11) rfl rfl rfl rfl h (hS.sub (.cons mr (.zz .ii))) (v := p0_0) (fun w hS => r_move h rfl) fun a h=>?_
  obtain ⟨t_3, et_3, H⟩ := bs H
  refine t_takeE 4 (bA 10 27) rfl rfl rfl rfl h (hS.sub (.cons mr (.zz .ii))) (f := fun ad => .pointer (some ad)) (r_index h U28 ti22 rfl rfl rfl hp0_0 et_3) ?_
  rintro ad_1 ⟨cs_1, hk_1, hc_2⟩
  obtain ⟨v_3, rfl, hr_3⟩ := hk_1
  intro a h
  refine t_take 5 (bA 10 59) rfl rfl rfl rfl h (hS.sub (.cons mr (.zz .ii))) (v := v_3) (fun w hS => r_load h rfl (el_one (o := 0) (fun j c h => Mem.cell_le (hA.trans hS.old) (hc_2 j c h)) U22 rfl rfl)) fun a h=>h_event 2 (bA 10 63) rfl (by kernel_rfl) (by kernel_rfl) ?_
  obtain ⟨t_4, et_4, H⟩ := bs H
  refine s_call h rfl Try.call102 rfl (hocketref4_rows.calls K t_2 _ t_4 w0 _ _ _ mr (hS.enter [] (by decide)) (hr_2.mono (hA.trans (hS.le_zed []))) et_4) ?_
  rintro v_4 w_5 ⟨_, N_3, M_2, rfl, hS', hr_4⟩
  intro a h
  obtain ⟨N_4, hS'', le_2, ln_2⟩ := hS.call [] (by decide) rfl (l' := []) (ow := [_]) rfl hS'
  replace hS : Sep w0 w_5 [N_4, _, _] Z := hS''
  refine ne (hS.sub (.cons le_2 (.zz .nn))) fun hs => ?_
  refine h_event 6 (bA 10 127) rfl (by kernel_rfl) (by kernel_rfl) ?_
  obtain ⟨t_5, et_5, H⟩ := bs H
  refine s_call h rfl Try.call101 rfl (hocketref4_own.calls t_3 _ t_5 w0 _ _ _ mr (hS.enter [] (by decide)) (hr_3.mono (hA.trans (hS.le_zed []))) et_5) ?_
  rintro v_5 w_6 ⟨_, N_5, M_3, rfl, hS', hr_5⟩
  intro a h
  obtain ⟨N_6, hS'', le_3, ln_3⟩ := hS.call [] (by decide) rfl (l' := []) (ow := [_]) rfl hS'
  replace hS : Sep w0 w_6 [N_6, _, _, _] Z := hS''
  refine ne (hS.sub (.cons (le_2.trans le_3) (.zz .nn))) fun hs => ?_
  refine t_take 7 (bA 10 255) rfl rfl rfl rfl h hs (v := .agg ([iV 0, v_5, iV 0] : List Value).toArray) (fun w hS => r_build h ti91 pl91 rfl (.cons hr_5.cells .nil) (cs := [iV 0, v_5, iV 0]) (by kernel_rfl)) fun a h=>t_take 8 (bA 10 511) rfl rfl rfl rfl h hs (v := v_4) (fun w hS => r_assign h rfl) fun a h=>h_event 9 (bA 10 1023) rfl (by kernel_rfl) (by kernel_rfl) ?_
  refine sto 1 h rfl rfl hS rfl ti91 rfl rfl rfl (oa 1 rfl (oc hr_5.one (oz rfl))) fun w_7 hS' => ?_
  replace hS : Sep w0 w_7 [_, bx g_1 91 [_, v_5, _], _, _] Z := hS'
  refine ne (hS.sub (.cons (le_2.trans le_3) (.zz .nn))) fun hs => ?_
  refine h_done (by kernel_rfl) <| x_then_n (hKJ_2 _ _ ?_)
  refine wp_ret ?_
  obtain rfl := Option.some.inj H
  exact f_ret h (rs := [.tmp 2, .cell 3 91]) rfl (.tmp rfl (.cell rfl (hS.load_agg (p := 1) (us := [iV 0, v_5, iV 0]) rfl U91 rfl ti91 rfl rfl) .nil)) ⟨_, rfl, v_4, v_5, N_6, M_2, M_3, rfl, (hS.sel [0, 2, 3] (by decide)), ((hr_4.mono ln_2).mono le_3), hr_5⟩

set_option maxHeartbeats 4000000 in
set_option maxRecDepth 20000 in
theorem hocketref4_place.calls (K : Nat) (x0 : List Int) (p0_0 : Value) (x1 : Int) (r : Int) (w0 w : World) (Z A : Mem) (hA : A.le Z) (hS : Sep w0 w [] Z) (hp0_0 : Rd (Kd.int .i64) A p0_0 x0)
    (H : hocketref4_place.f K x0 x1 = some r) :
    Calls Try.prog 115 [p0_0, iV x1].toArray w (Ret fun v w' => ∃ (N : Mem), v = iV r ∧ Sep w0 w' [N] Z) := by
 unfold hocketref4_place.f at H
 refine f_enter _ Try.func115 rfl Try.ntmps115 rfl fun a h=>?_
 replace h : Fr 19 a [(0, p0_0), (1, iV x1)] := h
 replace hS := hS.start
 refine qr <| sg h rfl fun a h=>nx <| c_seq fun KJ_1 hKJ_1 => qr <| sg h rfl fun a h=>wpList_nil <| x_then_n ?_
 have hJ_j_1 : hocketref4_place.J1 K = some r → ∀ (a : Act) (w_1 : World), (∃ (N_1 : Mem), Fr 19 a [(4, iV 0)] ∧ Sep w0 w_1 [N_1] Z ∧ Mem.no.le N_1) → KJ_1 a w_1 := by
  clear H h hS a
  rintro H a w_1 ⟨N_1, h, hS, le_1⟩
  unfold hocketref4_place.J1 at H
  refine hKJ_1 _ _ <| qr <| sg h rfl fun a h=>nx <| wp_ret ?_
  obtain rfl := Option.some.inj H
  exact r1 h 4 rfl rfl ⟨_, rfl, N_1, rfl, (hS.sel [0] (by decide))⟩
 clear hKJ_1
 refine c_block <| c_loop (fun k_1 a w_2 => ∃ (x_1 : Int) (N_2 : Mem), hocketref4_place.L1 K x0 x1 (fun v => hocketref4_place.J1 K) k_1 x_1 = some r ∧ Fr 19 a [(0, p0_0), (1, iV x1), (4, iV 0), (5, iV x_1)] ∧ Sep w0 w_2 [N_2] Z ∧ Mem.no.le N_2) K ⟨0, Mem.no, H, (h.to rfl), (hS.sel [0] (by decide)), mr⟩ (fun a w h => by obtain ⟨_, _, H, _⟩ := h; cases (show (none : Option (Int)) = some r from H)) ?_
 clear h hS a H
 rintro k_1 a w_2 KL_1 hKL_1 ⟨x_1, N_2, H, h, hS, le_2⟩
 replace H : hocketref4_place.B1 K x0 x1 (fun v => hocketref4_place.J1 K) (hocketref4_place.L1 K x0 x1 (fun v => hocketref4_place.J1 K) k_1) x_1 = some r := H
 unfold hocketref4_place.B1 at H
 refine c_seq fun KJ_2 hKJ_2 => qr <| mv h rfl fun a h=>mv h rfl fun a h=>s_len h rfl U29 rfl hp0_0 fun a h=>s_cmp (b := decide (x_1 < (x0.length : Int))) h rfl rfl rfl (.inr (.inr (.inl ⟨rfl, rfl⟩))) fun a h=>wpList_nil <| x_then_n ?_
 obtain ⟨hc_1, H⟩ | ⟨hc_1, H⟩ := ii H
 ·refine c_cond_t h rfl (dt hc_1) <| wp_skip <| x_then_n (hKJ_2 _ _ ?_)
  refine c_seq fun KJ_3 hKJ_3 => c_block <| qr <| mv h rfl fun a h=>mv h rfl fun a h=>?_
  obtain ⟨t_1, et_1, H⟩ := bs H
  refine v_index h rfl U29 ti3 rfl rfl rfl hp0_0 (hA.trans hS.old) et_1 fun ad_1 cs_1 hk_1 hc_2 => ?_
  obtain rfl := (show cs_1 = [iV t_1] from hk_1)
  intro a h
  refine s_load h rfl rfl (el_one (o := 0) hc_2 U3 rfl rfl) fun a h=>mv h rfl fun a h=>s_cmp (b := (t_1 == x1)) h rfl rfl rfl (.inl ⟨rfl, rfl⟩) fun a h=>wpList_nil ?_
  replace h : Fr 19 a [(0, _), (1, _), (4, _), (5, _), (17, .bool (t_1 == x1))] := h.keep [0, 1, 4, 5, 17]
  refine x_then_n ?_
  obtain ⟨hc_3, H⟩ | ⟨hc_3, H⟩ := ii H
  ·refine c_cond_t h rfl (bt hc_3) <| qr <| mv h rfl fun a h=>sg h rfl fun a h=>nx <| wp_ret (x_block_r (x_then_r (x_then_r (x_block_r (x_then_r ?_)))))
   obtain rfl := Option.some.inj H
   exact r1 h 4 rfl rfl ⟨_, rfl, N_2, rfl, (hS.sel [0] (by decide))⟩
  ·refine c_cond_f h rfl (bf hc_3) <| wp_skip <| x_block_n <| x_then_n (hKJ_3 _ _ ?_)
   refine wp_region_lit <| mv h rfl fun a h=>s_arith (r := w64 (x_1 + 1)) h rfl rfl rfl (.inl ⟨rfl, rfl⟩) fun a h=>sg h rfl fun a h=>wpList_nil <| x_then_n (hKL_1 _ _ ?_)
   exact ⟨w64 (x_1 + 1), N_2, H, (h.to rfl), (hS.sel [0] (by decide)), le_2⟩
 ·refine c_cond_f h rfl (df hc_1) <| wp_exit (x_then_x (x_then_x (x_block_t ?_)))
  exact x_then_n (hJ_j_1  H _ _ ⟨N_2, (h.to rfl), (hS.sel [0] (by decide)), le_2⟩)

set_option maxHeartbeats 4000000 in
set_option maxRecDepth 20000 in
theorem hocketref4_Take.calls (K : Nat) (x0 : List Int) (p0_0 : Value) (x1 : Int) (r : (List Int) × api_Result) (w0 w : World) (Z A : Mem) (hA : A.le Z) (hS : Sep w0 w [] Z) (hp0_0 : Rd (Kd.int .i64) A p0_0 x0)
    (H : hocketref4_Take.f K x0 x1 = some r) :
    Calls Try.prog 109 [p0_0, iV x1].toArray w (Ret fun v w' => ∃ (u0 : Value) (u1 : Value) (N : Mem) (M0 : Mem) (M1 : Mem), v = .tuple [u0, .agg (E91 r.2 u1).toArray].toArray ∧ Sep w0 w' [N, M0, M1] Z ∧ Own (Kd.int .i64) 3 M0 Mem.no u0 r.1 ∧ Own Kd.u8 5 M1 Mem.no u1 r.2.Val) := by
 unfold hocketref4_Take.f at H
 refine f_enter _ Try.func109 rfl Try.ntmps109 rfl fun a h=>?_
 replace h : Fr 28 a [(0, p0_0), (1, iV x1)] := h
 replace hS := hS.start
 refine qr <| sg h rfl fun a h=>v_alloc h rfl ti91 hS fun w_1 g_1 hS' a h => ?_
 replace hS : Sep w0 w_1 [_, bx g_1 91 [iV 0, nS, iV 0]] Z := hS'
 refine nx <| wp_seq <| wp_region_lit ?_
 have hq_1 : Reps (Kd.int .i64) Mem.no ([] : List Int) _ := (Reps.nil (Kd.int .i64) _)
 refine s_buildSlice h rfl U29 ti3 rfl rfl rfl .nil rfl rfl rfl hS hq_1 rfl fun w_2 v_1 M_1 hS' ho_1 a h => ?_
 replace hS : Sep w0 w_2 [_, _, M_1] Z := hS'
 refine mv h rfl fun a h=>?_
 obtain ⟨t_1, et_1, H⟩ := bs H
 refine s_append (J := Mem.no) (I' := Mem.no) (p := 2) 17592186044416 h rfl rfl rfl U29 ti3 rfl rfl rfl rfl hS rfl ho_1 (Src.flat (flat_int .i64) (hp0_0.src (hA.trans hS.old))) mr mr et_1 fun w_3 v_2 M_2 hS' ho_2 a h => ?_
 replace hS : Sep w0 w_3 [_, _, M_2] Z := hS'
 refine sg h rfl fun a h=>nx <| c_seq fun KJ_1 hKJ_1 => qr <| mv h rfl fun a h=>mv h rfl fun a h=>?_
 obtain ⟨t_2, et_2, H⟩ := bs H
 refine s_call h rfl Try.call115 rfl (hocketref4_place.calls K x0 _ x1 t_2 w0 _ _ _ mr (hS.enter [] (by decide)) (hp0_0.mono (hA.trans (hS.le_zed []))) et_2) ?_
 rintro _ w_4 ⟨N_1, rfl, hS'⟩
 intro a h
 obtain ⟨N_2, hS'', le_1, ln_1⟩ := hS.call [] (by decide) rfl (l' := []) (ow := []) rfl hS'
 replace hS : Sep w0 w_4 [N_2, _, _] Z := hS''
 refine s_cmp (b := decide (t_2 ≥ 0)) h rfl rfl rfl (.inr (.inr (.inr (.inr (.inr ⟨rfl, rfl⟩))))) fun a h=>wpList_nil <| x_then_n ?_
 obtain ⟨hc_1, H⟩ | ⟨hc_1, H⟩ := ii H
 ·refine c_cond_t h rfl (dt hc_1) <| qr <| mv h rfl fun a h=>?_
  obtain ⟨t_3, et_3, H⟩ := bs H
  refine s_call h rfl Try.call98 rfl (hocketref4_bad.calls 6 t_3 w0 _ _ _ mr (hS.enter [] (by decide))  et_3) ?_
  rintro _ w_5 ⟨v_3, N_3, M_3, rfl, hS', hr_1⟩
  intro a h
  obtain ⟨N_4, hS'', le_2, ln_2⟩ := hS.call [] (by decide) rfl (l' := []) (ow := [_]) rfl hS'
  replace hS : Sep w0 w_5 [N_4, _, _, _] Z := hS''
  refine sg h rfl fun a h=>?_
  refine sto 1 h rfl rfl hS rfl ti91 rfl rfl rfl (oa 1 rfl (oc hr_1.one (oz rfl))) fun w_6 hS' => ?_
  replace hS : Sep w0 w_6 [_, bx g_1 91 (E91 t_3 v_3), _, _] Z := hS'
  refine wpList_nil ?_
  replace h : Fr 28 a [(0, _), (1, _), (4, v_2), (5, .pointer (some ⟨g_1, 0, none⟩)), (6, v_2)] := h.keep [0, 1, 4, 5, 6]
  refine x_then_n <| wp_ret (x_then_r ?_)
  obtain rfl := Option.some.inj H
  exact f_ret h (rs := [.tmp 4, .cell 5 91]) rfl (.tmp rfl (.cell rfl (hS.load_agg (p := 1) (us := (E91 t_3 v_3)) rfl U91 rfl ti91 rfl rfl) .nil)) ⟨_, rfl, v_2, v_3, N_4, M_2, M_3, rfl, (hS.sel [0, 2, 3] (by decide)), ho_2, hr_1⟩
 ·refine c_cond_f h rfl (df hc_1) <| wp_skip <| x_then_n (hKJ_1 _ _ ?_)
  refine c_seq fun KJ_2 hKJ_2 => qr <| mv h rfl fun a h=>s_len h rfl U29 rfl hp0_0 fun a h=>s_cmp (b := decide ((x0.length : Int) ≥ 5)) h rfl rfl rfl (.inr (.inr (.inr (.inr (.inr ⟨rfl, rfl⟩))))) fun a h=>wpList_nil ?_
  replace h : Fr 28 a [(0, _), (1, _), (4, nS), (5, .pointer (some ⟨g_1, 0, none⟩)), (6, v_2), (18, .bool (decide ((x0.length : Int) ≥ 5)))] := h.keep [0, 1, 4, 5, 6, 18]
  refine x_then_n ?_
  obtain ⟨hc_2, H⟩ | ⟨hc_2, H⟩ := ii H
  ·refine c_cond_t h rfl (dt hc_2) <| qr <| mv h rfl fun a h=>?_
   obtain ⟨t_4, et_4, H⟩ := bs H
   refine s_call h rfl Try.call98 rfl (hocketref4_bad.calls 3 t_4 w0 _ _ _ mr (hS.enter [] (by decide))  et_4) ?_
   rintro _ w_7 ⟨v_4, N_5, M_4, rfl, hS', hr_2⟩
   intro a h
   obtain ⟨N_6, hS'', le_3, ln_3⟩ := hS.call [] (by decide) rfl (l' := []) (ow := [_]) rfl hS'
   replace hS : Sep w0 w_7 [N_6, _, _, _] Z := hS''
   refine sg h rfl fun a h=>?_
   refine sto 1 h rfl rfl hS rfl ti91 rfl rfl rfl (oa 1 rfl (oc hr_2.one (oz rfl))) fun w_8 hS' => ?_
   replace hS : Sep w0 w_8 [_, bx g_1 91 (E91 t_4 v_4), _, _] Z := hS'
   refine nx <| wp_ret (x_then_r ?_)
   obtain rfl := Option.some.inj H
   exact f_ret h (rs := [.tmp 4, .cell 5 91]) rfl (.tmp rfl (.cell rfl (hS.load_agg (p := 1) (us := (E91 t_4 v_4)) rfl U91 rfl ti91 rfl rfl) .nil)) ⟨_, rfl, v_2, v_4, N_6, M_2, M_4, rfl, (hS.sel [0, 2, 3] (by decide)), ho_2, hr_2⟩
  ·refine c_cond_f h rfl (df hc_2) <| wp_skip <| x_then_n (hKJ_2 _ _ ?_)
   refine qr <| mv h rfl fun a h=>mv h rfl fun a h=>?_
   have hq_2 : Reps (Kd.int .i64) Mem.no ([x1] : List Int) _ := ((Reps.one (d := (Kd.int .i64)) (x := x1) (show (Kd.int .i64).K _ _ [iV x1] from rfl)).append (Reps.nil (Kd.int .i64) _))
   refine s_buildSlice h rfl U29 ti3 rfl rfl rfl (.cons rfl .nil) rfl rfl rfl hS hq_2 rfl fun w_9 v_5 M_5 hS' ho_3 a h => ?_
   replace hS : Sep w0 w_9 [_, _, _, M_5] Z := hS'
   obtain ⟨t_5, et_5, H⟩ := bs H
   refine s_append (J := Mem.no) (I' := Mem.no) (p := 2) 17592186044416 h rfl rfl rfl U29 ti3 rfl rfl rfl rfl hS rfl ho_2 (Src.flat (flat_int .i64) (ho_3.src (hS.own 3))) mr mr et_5 fun w_10 v_6 M_6 hS' ho_4 a h => ?_
   replace hS : Sep w0 w_10 [_, _, M_6, _] Z := hS'
   refine mv h rfl fun a h=>s_len h rfl U29 rfl hp0_0 fun a h=>s_build h rfl ti91 pl91 rfl (.cons rfl .nil) (cs := [iV 0, nS, iV (x0.length : Int)]) (by kernel_rfl) fun a h=>sg h rfl fun a h=>?_
   refine sto 1 h rfl rfl hS rfl ti91 rfl rfl rfl (oz rfl) fun w_11 hS' => ?_
   replace hS : Sep w0 w_11 [_, bx g_1 91 [_, _, iV (x0.length : Int)], _, _] Z := hS'
   refine nx <| wp_ret ?_
   have hS' := hS.room
   replace hS : Sep w0 w_11 [_, _, _, _, Mem.no] Z := hS'
   obtain rfl := Option.some.inj H
   exact f_ret h (rs := [.tmp 4, .cell 5 91]) rfl (.tmp rfl (.cell rfl (hS.load_agg (p := 1) (us := [iV 0, nS, iV (x0.length : Int)]) rfl U91 rfl ti91 rfl rfl) .nil)) ⟨_, rfl, v_6, nS, N_2, M_6, Mem.no, rfl, (hS.sel [0, 2, 4] (by decide)), ho_4, (Own.nil Kd.u8 5 Mem.no)⟩

set_option maxHeartbeats 4000000 in
set_option maxRecDepth 20000 in
theorem hocketref4_Free.calls (K : Nat) (x0 : List Int) (p0_0 : Value) (x1 : Int) (r : (List Int) × api_Result) (w0 w : World) (Z A : Mem) (hA : A.le Z) (hS : Sep w0 w [] Z) (hp0_0 : Rd (Kd.int .i64) A p0_0 x0)
    (H : hocketref4_Free.f K x0 x1 = some r) :
    Calls Try.prog 110 [p0_0, iV x1].toArray w (Ret fun v w' => ∃ (u0 : Value) (u1 : Value) (N : Mem) (M0 : Mem) (M1 : Mem), v = .tuple [u0, .agg (E91 r.2 u1).toArray].toArray ∧ Sep w0 w' [N, M0, M1] Z ∧ Own (Kd.int .i64) 3 M0 Mem.no u0 r.1 ∧ Own Kd.u8 5 M1 Mem.no u1 r.2.Val) := by
 unfold hocketref4_Free.f at H
 refine f_enter _ Try.func110 rfl Try.ntmps110 rfl fun a h=>?_
 replace h : Fr 36 a [(0, p0_0), (1, iV x1)] := h
 replace hS := hS.start
 refine qr <| sg h rfl fun a h=>v_alloc h rfl ti91 hS fun w_1 g_1 hS' a h => ?_
 replace hS : Sep w0 w_1 [_, bx g_1 91 [iV 0, nS, iV 0]] Z := hS'
 refine nx <| qr <| mv h rfl fun a h=>mv h rfl fun a h=>?_
 obtain ⟨t_1, et_1, H⟩ := bs H
 refine s_call h rfl Try.call115 rfl (hocketref4_place.calls K x0 _ x1 t_1 w0 _ _ _ mr (hS.enter [] (by decide)) (hp0_0.mono (hA.trans (hS.le_zed []))) et_1) ?_
 rintro _ w_2 ⟨N_1, rfl, hS'⟩
 intro a h
 obtain ⟨N_2, hS'', le_1, ln_1⟩ := hS.call [] (by decide) rfl (l' := []) (ow := []) rfl hS'
 replace hS : Sep w0 w_2 [N_2, _] Z := hS''
 refine sg h rfl fun a h=>nx <| c_seq fun KJ_1 hKJ_1 => qr <| mv h rfl fun a h=>s_cmp (b := decide (t_1 < 0)) h rfl rfl rfl (.inr (.inr (.inl ⟨rfl, rfl⟩))) fun a h=>wpList_nil <| x_then_n ?_
 obtain ⟨hc_1, H⟩ | ⟨hc_1, H⟩ := ii H
 ·refine c_cond_t h rfl (dt hc_1) <| wp_seq <| wp_region_lit ?_
  have hq_1 : Reps (Kd.int .i64) Mem.no ([] : List Int) _ := (Reps.nil (Kd.int .i64) _)
  refine s_buildSlice h rfl U29 ti3 rfl rfl rfl .nil rfl rfl rfl hS hq_1 rfl fun w_3 v_1 M_1 hS' ho_1 a h => ?_
  replace hS : Sep w0 w_3 [_, _, M_1] Z := hS'
  refine mv h rfl fun a h=>?_
  obtain ⟨t_2, et_2, H⟩ := bs H
  refine s_append (J := Mem.no) (I' := Mem.no) (p := 2) 17592186044416 h rfl rfl rfl U29 ti3 rfl rfl rfl rfl hS rfl ho_1 (Src.flat (flat_int .i64) (hp0_0.src (hA.trans hS.old))) mr mr et_2 fun w_4 v_2 M_2 hS' ho_2 a h => ?_
  replace hS : Sep w0 w_4 [_, _, M_2] Z := hS'
  obtain ⟨t_3, et_3, H⟩ := bs H
  refine s_call h rfl Try.call98 rfl (hocketref4_bad.calls 5 t_3 w0 _ _ _ mr (hS.enter [] (by decide))  et_3) ?_
  rintro _ w_5 ⟨v_3, N_3, M_3, rfl, hS', hr_1⟩
  intro a h
  obtain ⟨N_4, hS'', le_2, ln_2⟩ := hS.call [] (by decide) rfl (l' := []) (ow := [_]) rfl hS'
  replace hS : Sep w0 w_5 [N_4, _, _, _] Z := hS''
  refine sg h rfl fun a h=>?_
  refine sto 1 h rfl rfl hS rfl ti91 rfl rfl rfl (oa 1 rfl (oc hr_1.one (oz rfl))) fun w_6 hS' => ?_
  replace hS : Sep w0 w_6 [_, bx g_1 91 (E91 t_3 v_3), _, _] Z := hS'
  refine wpList_nil ?_
  replace h : Fr 36 a [(0, _), (4, v_2), (5, .pointer (some ⟨g_1, 0, none⟩)), (6, iV t_1)] := h.keep [0, 4, 5, 6]
  refine x_then_n <| wp_ret (x_then_r ?_)
  obtain rfl := Option.some.inj H
  exact f_ret h (rs := [.tmp 4, .cell 5 91]) rfl (.tmp rfl (.cell rfl (hS.load_agg (p := 1) (us := (E91 t_3 v_3)) rfl U91 rfl ti91 rfl rfl) .nil)) ⟨_, rfl, v_2, v_3, N_4, M_2, M_3, rfl, (hS.sel [0, 2, 3] (by decide)), ho_2, hr_1⟩
 ·refine c_cond_f h rfl (df hc_1) <| wp_skip <| x_then_n (hKJ_1 _ _ ?_)
  refine c_seq fun KJ_2 hKJ_2 => h_begin (S := fun w => Sep w0 w [N_2, bx g_1 91 [iV 0, nS, iV 0]] Z) 11 (by kernel_rfl) rfl (bA 11 0) (by kernel_rfl) hS fun w_7 hS => ?_
  refine t_take 1 (bA 11 2) rfl rfl rfl rfl h (hS.sub .ii) (v := p0_0) (fun w hS => r_move h rfl) fun a h=>t_take 2 (bA 11 6) rfl rfl rfl rfl h (hS.sub .ii) (v := iV t_1) (fun w hS => r_move h rfl) fun a h=>?_
  obtain ⟨t_4, et_4, H⟩ := bs H
  refine t_takeE 3 (bA 11 14) rfl rfl rfl rfl h (hS.sub .ii) (f := fun v => v) (r_slice h U29 ti3 rfl rfl hp0_0 rfl rfl et_4) fun v_4 hr_2 a h => t_take 5 (bA 11 46) rfl rfl rfl rfl h (hS.sub .ii) (v := p0_0) (fun w hS => r_move h rfl) fun a h=>t_take 6 (bA 11 110) rfl rfl rfl rfl h (hS.sub .ii) (v := iV t_1) (fun w hS => r_move h rfl) fun a h=>t_take 7 (bA 11 238) rfl rfl rfl rfl h (hS.sub .ii) (v := iV (w64 (t_1 + 1))) (fun w hS => r_arith (r := w64 (t_1 + 1)) h rfl rfl (.inl ⟨rfl, rfl⟩)) fun a h=>?_
  obtain ⟨t_5, et_5, H⟩ := bs H
  refine t_takeE 8 (bA 11 494) rfl rfl rfl rfl h (hS.sub .ii) (f := fun v => v) (r_slice h U29 ti3 rfl rfl hp0_0 rfl rfl et_5) fun v_5 hr_3 a h => h_event 0 (bA 11 495) rfl (by kernel_rfl) (by kernel_rfl) ?_
  have hq_2 : Reps (Kd.int .i64) Mem.no ([] : List Int) _ := (Reps.nil (Kd.int .i64) _)
  refine s_buildSlice h rfl U29 ti3 rfl rfl rfl .nil rfl rfl rfl hS hq_2 rfl fun w_8 v_6 M_4 hS' ho_3 a h => ?_
  replace hS : Sep w0 w_8 [_, _, M_4] Z := hS'
  refine ne (hS.sub (.cons mr (.rr .nn))) fun hs => ?_
  refine h_event 4 (bA 11 511) rfl (by kernel_rfl) (by kernel_rfl) ?_
  obtain ⟨t_6, et_6, H⟩ := bs H
  refine s_append (J := Mem.no) (I' := Mem.no) (p := 2) 17592186044416 h rfl rfl rfl U29 ti3 rfl rfl rfl rfl hS rfl ho_3 (Src.flat (flat_int .i64) (hr_2.src (hA.trans hS.old))) mr mr et_6 fun w_9 v_7 M_5 hS' ho_4 a h => ?_
  replace hS : Sep w0 w_9 [_, _, M_5] Z := hS'
  refine ne (hS.sub (.cons mr (.rr .nn))) fun hs => ?_
  refine h_event 9 (bA 11 1023) rfl (by kernel_rfl) (by kernel_rfl) ?_
  obtain ⟨t_7, et_7, H⟩ := bs H
  refine s_append (J := Mem.no) (I' := Mem.no) (p := 2) 17592186044416 h rfl rfl rfl U29 ti3 rfl rfl rfl rfl hS rfl ho_4 (Src.flat (flat_int .i64) (hr_3.src (hA.trans hS.old))) mr mr et_7 fun w_10 v_8 M_6 hS' ho_5 a h => ?_
  replace hS : Sep w0 w_10 [_, _, M_6] Z := hS'
  refine ne (hS.sub (.cons mr (.rr .nn))) fun hs => ?_
  refine t_take 10 (bA 11 2047) rfl rfl rfl rfl h hs (v := v_8) (fun w hS => r_assign h rfl) fun a h=>h_done (by kernel_rfl) ?_
  replace h : Fr 36 a [(4, nS), (5, .pointer (some ⟨g_1, 0, none⟩)), (7, v_8)] := h.keep [4, 5, 7]
  refine x_then_n (hKJ_2 _ _ ?_)
  refine c_seq fun KJ_3 hKJ_3 => qr <| mv h rfl fun a h=>s_lenO h rfl U29 rfl ho_5 fun a h=>s_cmp (b := ((t_7.length : Int) == 0)) h rfl rfl rfl (.inl ⟨rfl, rfl⟩) fun a h=>wpList_nil <| x_then_n ?_
  obtain ⟨hc_2, H⟩ | ⟨hc_2, H⟩ := ii H
  ·refine c_cond_t h rfl (bt hc_2) <| qr <| s_build h rfl ti91 pl91 rfl (.cons rfl .nil) (cs := [iV 0, nS, iV (-1)]) (by kernel_rfl) fun a h=>sg h rfl fun a h=>?_
   refine sto 1 h rfl rfl hS rfl ti91 rfl rfl rfl (oz rfl) fun w_11 hS' => ?_
   replace hS : Sep w0 w_11 [_, bx g_1 91 [_, _, iV (-1)], _] Z := hS'
   refine nx <| wp_ret (x_then_r ?_)
   have hS' := hS.room
   replace hS : Sep w0 w_11 [_, _, _, Mem.no] Z := hS'
   have hS' := hS.room
   replace hS : Sep w0 w_11 [_, _, _, _, Mem.no] Z := hS'
   obtain rfl := Option.some.inj H
   exact f_ret h (rs := [.tmp 4, .cell 5 91]) rfl (.tmp rfl (.cell rfl (hS.load_agg (p := 1) (us := [iV 0, nS, iV (-1)]) rfl U91 rfl ti91 rfl rfl) .nil)) ⟨_, rfl, nS, nS, N_2, Mem.no, Mem.no, rfl, (hS.sel [0, 3, 4] (by decide)), (Own.nil (Kd.int .i64) 3 Mem.no), (Own.nil Kd.u8 5 Mem.no)⟩
  ·refine c_cond_f h rfl (bf hc_2) <| wp_skip <| x_then_n (hKJ_3 _ _ ?_)
   refine c_seq fun KJ_4 hKJ_4 => h_begin (S := fun w => Sep w0 w [N_2, Mem.no, M_6] Z) 7 (by kernel_rfl) rfl (bA 7 0) (by kernel_rfl) hS fun w_12 hS => ?_
   refine t_take 0 (bA 7 1) rfl rfl rfl rfl h (hS.sub (.cons mr (.zz .ii))) (v := v_8) (fun w hS => r_move h rfl) fun a h=>t_take 1 (bA 7 3) rfl rfl rfl rfl h (hS.sub (.cons mr (.zz .ii))) (v := v_8) (fun w hS => r_move h rfl) fun a h=>?_
   obtain ⟨t_8, et_8, H⟩ := bs H
   refine t_takeE 2 (bA 7 7) rfl rfl rfl rfl h (hS.sub (.cons mr (.zz .ii))) (f := fun ad => .pointer (some ad)) (r_indexO h U29 ti3 rfl rfl rfl ho_5 et_8) ?_
   rintro ad_1 ⟨cs_1, hk_1, hc_3⟩
   obtain rfl := (show cs_1 = [iV t_8] from hk_1)
   intro a h
   refine t_take 3 (bA 7 15) rfl rfl rfl rfl h (hS.sub (.cons mr (.zz .ii))) (v := iV t_8) (fun w hS => r_load h rfl (el_one (o := 0) (fun j c h => Mem.cell_le (hS.own 2) (hc_3 j c h)) U3 rfl rfl)) fun a h=>t_take 4 (bA 7 31) rfl rfl rfl rfl h (hS.sub (.cons mr (.zz .ii))) (v := .agg ([iV 0, nS, iV t_8] : List Value).toArray) (fun w hS => r_build h ti91 pl91 rfl (.cons rfl .nil) (cs := [iV 0, nS, iV t_8]) (by kernel_rfl)) fun a h=>t_take 5 (bA 7 63) rfl rfl rfl rfl h (hS.sub (.cons mr (.zz .ii))) (v := v_8) (fun w hS => r_assign h rfl) fun a h=>h_event 6 (bA 7 127) rfl (by kernel_rfl) (by kernel_rfl) ?_
   refine sto 1 h rfl rfl hS rfl ti91 rfl rfl rfl (oz rfl) fun w_13 hS' => ?_
   replace hS : Sep w0 w_13 [_, bx g_1 91 [_, _, iV t_8], _] Z := hS'
   refine ne (hS.sub (.cons mr (.zz .ii))) fun hs => ?_
   refine h_done (by kernel_rfl) <| x_then_n (hKJ_4 _ _ ?_)
   refine wp_ret ?_
   have hS' := hS.room
   replace hS : Sep w0 w_13 [_, _, _, Mem.no] Z := hS'
   obtain rfl := Option.some.inj H
   exact f_ret h (rs := [.tmp 4, .cell 5 91]) rfl (.tmp rfl (.cell rfl (hS.load_agg (p := 1) (us := [iV 0, nS, iV t_8]) rfl U91 rfl ti91 rfl rfl) .nil)) ⟨_, rfl, v_8, nS, N_2, M_6, Mem.no, rfl, (hS.sel [0, 2, 3] (by decide)), ho_5, (Own.nil Kd.u8 5 Mem.no)⟩

set_option maxHeartbeats 4000000 in
set_option maxRecDepth 20000 in
theorem hocketref4_Owner.calls (x0 : List Int) (p0_0 : Value) (r : api_Result) (w0 w : World) (Z A : Mem) (hA : A.le Z) (hS : Sep w0 w [] Z) (hp0_0 : Rd (Kd.int .i64) A p0_0 x0)
    (H : hocketref4_Owner.f x0 = some r) :
    Calls Try.prog 111 [p0_0].toArray w (Ret fun v w' => ∃ (u0 : Value) (N : Mem) (M0 : Mem), v = .agg (E91 r u0).toArray ∧ Sep w0 w' [N, M0] Z ∧ Own Kd.u8 5 M0 Mem.no u0 r.Val) := by
 unfold hocketref4_Owner.f at H
 refine f_enter _ Try.func111 rfl Try.ntmps111 rfl fun a h=>?_
 replace h : Fr 11 a [(0, p0_0)] := h
 replace hS := hS.start
 refine qr <| v_alloc h rfl ti91 hS fun w_1 g_1 hS' a h => ?_
 replace hS : Sep w0 w_1 [_, bx g_1 91 [iV 0, nS, iV 0]] Z := hS'
 refine nx <| c_seq fun KJ_1 hKJ_1 => qr <| mv h rfl fun a h=>s_len h rfl U29 rfl hp0_0 fun a h=>s_cmp (b := ((x0.length : Int) == 0)) h rfl rfl rfl (.inl ⟨rfl, rfl⟩) fun a h=>wpList_nil <| x_then_n ?_
 obtain ⟨hc_1, H⟩ | ⟨hc_1, H⟩ := ii H
 ·refine c_cond_t h rfl (bt hc_1) <| wp_seq <| wp_region_lit ?_
  obtain ⟨t_1, et_1, H⟩ := bs H
  refine s_call h rfl Try.call98 rfl (hocketref4_bad.calls 5 t_1 w0 _ _ _ mr (hS.enter [] (by decide))  et_1) ?_
  rintro _ w_2 ⟨v_1, N_1, M_1, rfl, hS', hr_1⟩
  intro a h
  obtain ⟨N_2, hS'', le_1, ln_1⟩ := hS.call [] (by decide) rfl (l' := []) (ow := [_]) rfl hS'
  replace hS : Sep w0 w_2 [N_2, _, _] Z := hS''
  refine sto 1 h rfl rfl hS rfl ti91 rfl rfl rfl (oa 1 rfl (oc hr_1.one (oz rfl))) fun w_3 hS' => ?_
  replace hS : Sep w0 w_3 [_, bx g_1 91 (E91 t_1 v_1), _] Z := hS'
  refine nx <| wp_ret (x_then_r ?_)
  obtain rfl := Option.some.inj H
  exact f_ret h (rs := [.cell 2 91]) rfl (.cell rfl (hS.load_agg (p := 1) (us := (E91 t_1 v_1)) rfl U91 rfl ti91 rfl rfl) .nil) ⟨_, rfl, v_1, N_2, M_1, rfl, (hS.sel [0, 2] (by decide)), hr_1⟩
 ·refine c_cond_f h rfl (bf hc_1) <| wp_skip <| x_then_n (hKJ_1 _ _ ?_)
  refine qr <| mv h rfl fun a h=>?_
  obtain ⟨t_2, et_2, H⟩ := bs H
  refine v_index h rfl U29 ti3 rfl rfl rfl hp0_0 (hA.trans hS.old) et_2 fun ad_1 cs_1 hk_1 hc_2 => ?_
  obtain rfl := (show cs_1 = [iV t_2] from hk_1)
  intro a h
  refine s_load h rfl rfl (el_one (o := 0) hc_2 U3 rfl rfl) fun a h=>s_build h rfl ti91 pl91 rfl (.cons rfl .nil) (cs := [iV 0, nS, iV t_2]) (by kernel_rfl) fun a h=>?_
  refine sto 1 h rfl rfl hS rfl ti91 rfl rfl rfl (oz rfl) fun w_4 hS' => ?_
  replace hS : Sep w0 w_4 [_, bx g_1 91 [_, _, iV t_2]] Z := hS'
  refine nx <| wp_ret ?_
  have hS' := hS.room
  replace hS : Sep w0 w_4 [_, _, Mem.no] Z := hS'
  obtain rfl := Option.some.inj H
  exact f_ret h (rs := [.cell 2 91]) rfl (.cell rfl (hS.load_agg (p := 1) (us := [iV 0, nS, iV t_2]) rfl U91 rfl ti91 rfl rfl) .nil) ⟨_, rfl, nS, Mem.no, Mem.no, rfl, (hS.sel [0, 2] (by decide)), (Own.nil Kd.u8 5 Mem.no)⟩

set_option maxHeartbeats 4000000 in
set_option maxRecDepth 20000 in
theorem hocketref4_key.calls (K : Nat) (x0 : List api_Pair) (p0_0 : Value) (x1 : List UInt8) (p1_1 : Value) (r : Int) (w0 w : World) (Z A : Mem) (hA : A.le Z) (hS : Sep w0 w [] Z) (hp0_0 : Rd k_api_Pair A p0_0 x0) (hp1_1 : Rd Kd.u8 A p1_1 x1)
    (H : hocketref4_key.f K x0 x1 = some r) :
    Calls Try.prog 121 [p0_0, p1_1].toArray w (Ret fun v w' => ∃ (N : Mem), v = iV r ∧ Sep w0 w' [N] Z) := by
 unfold hocketref4_key.f at H
 refine f_enter _ Try.func121 rfl Try.ntmps121 rfl fun a h=>?_
 replace h : Fr 22 a [(0, p0_0), (1, p1_1)] := h
 replace hS := hS.start
 refine qr <| sg h rfl fun a h=>nx <| c_seq fun KJ_1 hKJ_1 => qr <| sg h rfl fun a h=>wpList_nil <| x_then_n ?_
 have hJ_j_1 : hocketref4_key.J1 K = some r → ∀ (a : Act) (w_1 : World), (∃ (N_1 : Mem), Fr 22 a [(4, iV 0)] ∧ Sep w0 w_1 [N_1] Z ∧ Mem.no.le N_1) → KJ_1 a w_1 := by
  clear H h hS a
  rintro H a w_1 ⟨N_1, h, hS, le_1⟩
  unfold hocketref4_key.J1 at H
  refine hKJ_1 _ _ <| qr <| sg h rfl fun a h=>nx <| wp_ret ?_
  obtain rfl := Option.some.inj H
  exact r1 h 4 rfl rfl ⟨_, rfl, N_1, rfl, (hS.sel [0] (by decide))⟩
 clear hKJ_1
 refine c_block <| c_loop (fun k_1 a w_2 => ∃ (x_1 : Int) (N_2 : Mem), hocketref4_key.L1 K x0 x1 (fun v => hocketref4_key.J1 K) k_1 x_1 = some r ∧ Fr 22 a [(0, p0_0), (1, p1_1), (4, iV 0), (5, iV x_1)] ∧ Sep w0 w_2 [N_2] Z ∧ Mem.no.le N_2) K ⟨0, Mem.no, H, (h.to rfl), (hS.sel [0] (by decide)), mr⟩ (fun a w h => by obtain ⟨_, _, H, _⟩ := h; cases (show (none : Option (Int)) = some r from H)) ?_
 clear h hS a H
 rintro k_1 a w_2 KL_1 hKL_1 ⟨x_1, N_2, H, h, hS, le_2⟩
 replace H : hocketref4_key.B1 K x0 x1 (fun v => hocketref4_key.J1 K) (hocketref4_key.L1 K x0 x1 (fun v => hocketref4_key.J1 K) k_1) x_1 = some r := H
 unfold hocketref4_key.B1 at H
 refine c_seq fun KJ_2 hKJ_2 => qr <| mv h rfl fun a h=>mv h rfl fun a h=>s_len h rfl U30 rfl hp0_0 fun a h=>s_cmp (b := decide (x_1 < (x0.length : Int))) h rfl rfl rfl (.inr (.inr (.inl ⟨rfl, rfl⟩))) fun a h=>wpList_nil <| x_then_n ?_
 obtain ⟨hc_1, H⟩ | ⟨hc_1, H⟩ := ii H
 ·refine c_cond_t h rfl (dt hc_1) <| wp_skip <| x_then_n (hKJ_2 _ _ ?_)
  refine c_seq fun KJ_3 hKJ_3 => c_block <| c_seq fun KJ_4 hKJ_4 => h_begin (S := fun w => Sep w0 w [N_2] Z) 9 (by kernel_rfl) rfl (bA 9 0) (by kernel_rfl) hS fun w_3 hS => ?_
  refine t_take 0 (bA 9 1) rfl rfl rfl rfl h (hS.sub .ii) (v := p0_0) (fun w hS => r_move h rfl) fun a h=>t_take 1 (bA 9 3) rfl rfl rfl rfl h (hS.sub .ii) (v := iV x_1) (fun w hS => r_move h rfl) fun a h=>?_
  obtain ⟨t_1, et_1, H⟩ := bs H
  refine t_takeE 2 (bA 9 7) rfl rfl rfl rfl h (hS.sub .ii) (f := fun ad => .pointer (some ad)) (r_index h U30 ti88 rfl rfl rfl hp0_0 et_1) ?_
  rintro ad_1 ⟨cs_1, hk_1, hc_2⟩
  obtain ⟨v_1, v_2, rfl, hr_1, hr_2⟩ := k_api_Pair.open' hk_1
  intro a h
  refine t_take 3 (bA 9 15) rfl rfl rfl rfl h (hS.sub .ii) (v := .pointer (some (ad_1.add 0))) (fun w hS => r_fieldAddr h U88 rfl ti22 rfl rfl rfl) fun a h=>t_take 4 (bA 9 31) rfl rfl rfl rfl h (hS.sub .ii) (v := v_1) (fun w hS => r_load h rfl (el_one (o := 0) (fun j c h => Mem.cell_le (hA.trans hS.old) (hc_2 j c h)) U22 rfl rfl)) fun a h=>t_take 5 (bA 9 63) rfl rfl rfl rfl h (hS.sub .ii) (v := .string ⟨t_1.Key.toArray⟩) (fun w hS => r_b2s h U22 U5 U9 rfl hr_1 (hA.trans hS.old)) fun a h=>t_take 6 (bA 9 127) rfl rfl rfl rfl h (hS.sub .ii) (v := p1_1) (fun w hS => r_move h rfl) fun a h=>t_take 7 (bA 9 255) rfl rfl rfl rfl h (hS.sub .ii) (v := .string ⟨x1.toArray⟩) (fun w hS => r_b2s h U22 U5 U9 rfl hp1_1 (hA.trans hS.old)) fun a h=>t_take 8 (bA 9 511) rfl rfl rfl rfl h (hS.sub .ii) (v := .bool (t_1.Key == x1)) (fun w hS => r_strEq (b := (t_1.Key == x1)) h rfl rfl (.inl ⟨rfl, rfl⟩)) fun a h=>?_
  refine h_done (by kernel_rfl) ?_
  replace h : Fr 22 a [(0, _), (1, _), (4, _), (5, _), (20, .bool (t_1.Key == x1))] := h.keep [0, 1, 4, 5, 20]
  refine x_then_n (hKJ_4 _ _ ?_)
  obtain ⟨hc_3, H⟩ | ⟨hc_3, H⟩ := ii H
  ·refine c_cond_t h rfl (bt hc_3) <| qr <| mv h rfl fun a h=>sg h rfl fun a h=>nx <| wp_ret (x_block_r (x_then_r (x_then_r (x_block_r (x_then_r ?_)))))
   obtain rfl := Option.some.inj H
   exact r1 h 4 rfl rfl ⟨_, rfl, N_2, rfl, (hS.sel [0] (by decide))⟩
  ·refine c_cond_f h rfl (bf hc_3) <| wp_skip <| x_block_n <| x_then_n (hKJ_3 _ _ ?_)
   refine wp_region_lit <| mv h rfl fun a h=>s_arith (r := w64 (x_1 + 1)) h rfl rfl rfl (.inl ⟨rfl, rfl⟩) fun a h=>sg h rfl fun a h=>wpList_nil <| x_then_n (hKL_1 _ _ ?_)
   exact ⟨w64 (x_1 + 1), N_2, H, (h.to rfl), (hS.sel [0] (by decide)), le_2⟩
 ·refine c_cond_f h rfl (df hc_1) <| wp_exit (x_then_x (x_then_x (x_block_t ?_)))
  exact x_then_n (hJ_j_1  H _ _ ⟨N_2, (h.to rfl), (hS.sel [0] (by decide)), le_2⟩)

set_option maxHeartbeats 4000000 in
set_option maxRecDepth 20000 in
theorem hocketref4_Put.calls (K : Nat) (x0 : List api_Pair) (p0_0 : Value) (x1 : List UInt8) (p1_1 : Value) (x2 : List UInt8) (p2_2 : Value) (r : (List api_Pair) × api_Result) (w0 w : World) (Z A : Mem) (hA : A.le Z) (hS : Sep w0 w [] Z) (hp0_0 : Rd k_api_Pair A p0_0 x0) (hp1_1 : Rd Kd.u8 A p1_1 x1) (hp2_2 : Rd Kd.u8 A p2_2 x2)
    (H : hocketref4_Put.f K x0 x1 x2 = some r) :
    Calls Try.prog 112 [p0_0, p1_1, p2_2].toArray w (Ret fun v w' => ∃ (u0 : Value) (u1 : Value) (N : Mem) (M0 : Mem), v = .tuple [u0, .agg (E91 r.2 u1).toArray].toArray ∧ Sep w0 w' [N, M0] Z ∧ Own k_api_Pair 88 M0 N u0 r.1 ∧ Rd Kd.u8 N u1 r.2.Val) := by
 unfold hocketref4_Put.f at H
 refine f_enter _ Try.func112 rfl Try.ntmps112 rfl fun a h=>?_
 replace h : Fr 93 a [(0, p0_0), (1, p1_1), (2, p2_2)] := h
 replace hS := hS.start
 refine qr <| sg h rfl fun a h=>v_alloc h rfl ti91 hS fun w_1 g_1 hS' a h => ?_
 replace hS : Sep w0 w_1 [_, bx g_1 91 [iV 0, nS, iV 0]] Z := hS'
 refine nx <| qr <| mv h rfl fun a h=>?_
 obtain ⟨t_1, et_1, H⟩ := bs H
 refine s_call h rfl Try.call103 rfl (hocketref4_pairs.calls K x0 _ t_1 w0 _ _ _ mr (hS.enter [] (by decide)) (hp0_0.mono (hA.trans (hS.le_zed []))) et_1) ?_
 rintro v_1 w_2 ⟨_, N_1, M_1, rfl, hS', hr_1⟩
 intro a h
 obtain ⟨N_2, hS'', le_1, ln_1⟩ := hS.call [] (by decide) rfl (l' := []) (ow := [_]) rfl hS'
 replace hS : Sep w0 w_2 [N_2, _, _] Z := hS''
 refine sg h rfl fun a h=>nx <| c_seq fun KJ_1 hKJ_1 => c_seq fun KJ_2 hKJ_2 => ?_
 have hJ_j_1 : ∀ (x_1 : Bool), hocketref4_Put.J1 K t_1 x0 x1 x2 x_1 = some r → ∀ (a : Act) (w_3 : World), (∃ (N_3 : Mem), Fr 93 a [(0, p0_0), (1, p1_1), (2, p2_2), (6, nS), (7, .pointer (some ⟨g_1, 0, none⟩)), (8, v_1), (21, .bool x_1)] ∧ Sep w0 w_3 [N_3, bx g_1 91 [iV 0, nS, iV 0], M_1] Z ∧ N_2.le N_3) → KJ_2 a w_3 := by
  clear H h hS a
  rintro x_1 H a w_3 ⟨N_3, h, hS, le_2⟩
  unfold hocketref4_Put.J1 at H
  refine hKJ_2 _ _ ?_
  obtain ⟨hc_1, H⟩ | ⟨hc_1, H⟩ := ii H
  ·refine c_cond_t h rfl hc_1 <| qr <| mv h rfl fun a h=>?_
   obtain ⟨t_2, et_2, H⟩ := bs H
   refine s_call h rfl Try.call98 rfl (hocketref4_bad.calls 1 t_2 w0 _ _ _ mr (hS.enter [] (by decide))  et_2) ?_
   rintro _ w_4 ⟨v_2, N_4, M_2, rfl, hS', hr_2⟩
   intro a h
   obtain ⟨N_5, hS'', le_3, ln_2⟩ := hS.call [] (by decide) rfl (l' := []) (ow := [_]) rfl hS'
   replace hS : Sep w0 w_4 [N_5, _, _, _] Z := hS''
   refine sg h rfl fun a h=>?_
   refine sto 1 h rfl rfl hS rfl ti91 rfl rfl rfl (oa 1 rfl (oc hr_2.one (oz rfl))) fun w_5 hS' => ?_
   replace hS : Sep w0 w_5 [_, bx g_1 91 (E91 t_2 v_2), _, _] Z := hS'
   refine nx <| wp_ret (x_then_r ?_)
   obtain ⟨N_6, hS', le_4, lo_1⟩ := hS.freeze 2 rfl
   replace hS : Sep w0 w_5 [N_6, _, _, Mem.no] Z := hS'
   obtain rfl := Option.some.inj H
   exact f_ret h (rs := [.tmp 6, .cell 7 91]) rfl (.tmp rfl (.cell rfl (hS.load_agg (p := 1) (us := (E91 t_2 v_2)) rfl U91 rfl ti91 rfl rfl) .nil)) ⟨_, rfl, v_1, v_2, N_6, M_1, rfl, (hS.sel [0, 2] (by decide)), ((hr_1.mono ln_1).mono (le_2.trans (le_3.trans le_4))), (hr_2.rd lo_1 (Mem.no_le _))⟩
  ·refine c_cond_f h rfl (ef hc_1) <| wp_skip <| x_then_n (hKJ_1 _ _ ?_)
   refine c_seq fun KJ_3 hKJ_3 => qr <| mv h rfl fun a h=>mv h rfl fun a h=>?_
   obtain ⟨t_3, et_3, H⟩ := bs H
   refine s_call h rfl Try.call121 rfl (hocketref4_key.calls K x0 _ x1 _ t_3 w0 _ _ _ mr (hS.enter [] (by decide)) (hp0_0.mono (hA.trans (hS.le_zed []))) (hp1_1.mono (hA.trans (hS.le_zed []))) et_3) ?_
   rintro _ w_6 ⟨N_7, rfl, hS'⟩
   intro a h
   obtain ⟨N_8, hS'', le_5, ln_3⟩ := hS.call [] (by decide) rfl (l' := []) (ow := []) rfl hS'
   replace hS : Sep w0 w_6 [N_8, _, _] Z := hS''
   refine sg h rfl fun a h=>nx <| qr <| mv h rfl fun a h=>s_cmp (b := decide (t_3 ≥ 0)) h rfl rfl rfl (.inr (.inr (.inr (.inr (.inr ⟨rfl, rfl⟩))))) fun a h=>wpList_nil ?_
   replace h : Fr 93 a [(0, _), (1, _), (2, _), (6, _), (7, _), (8, _), (9, iV t_3), (28, .bool (decide (t_3 ≥ 0)))] := h.keep [0, 1, 2, 6, 7, 8, 9, 28]
   refine x_then_n ?_
   obtain ⟨hc_2, H⟩ | ⟨hc_2, H⟩ := ii H
   ·refine c_cond_t h rfl (dt hc_2) <| qr <| mv h rfl fun a h=>mv h rfl fun a h=>?_
    obtain ⟨t_4, et_4, H⟩ := bs H
    refine v_indexO h rfl U30 ti88 rfl rfl rfl (hr_1.mono ln_1) (hS.own 2) et_4 fun ad_1 cs_1 hk_1 hc_3 => ?_
    obtain ⟨v_3, v_4, rfl, hr_3, hr_4⟩ := k_api_Pair.open' hk_1
    intro a h
    refine s_fieldAddr h rfl U88 rfl ti22 rfl rfl fun a h=>s_load h rfl rfl (el_one (o := 1) hc_3 U22 rfl rfl) fun a h=>sg h rfl fun a h=>nx <| qr <| mv h rfl fun a h=>mv h rfl fun a h=>mv h rfl fun a h=>?_
    obtain ⟨t_5, et_5, H⟩ := bs H
    refine s_call h rfl Try.call101 rfl (hocketref4_own.calls x2 _ t_5 w0 _ _ _ mr (hS.enter [] (by decide)) (hp2_2.mono (hA.trans (hS.le_zed []))) et_5) ?_
    rintro v_5 w_7 ⟨_, N_9, M_3, rfl, hS', hr_5⟩
    intro a h
    obtain ⟨N_10, hS'', le_6, ln_4⟩ := hS.call [] (by decide) rfl (l' := []) (ow := [_]) rfl hS'
    replace hS : Sep w0 w_7 [N_10, _, _, _] Z := hS''
    obtain ⟨t_6, et_6, H⟩ := bs H
    refine s_indexOwn h rfl U30 ti88 rfl rfl rfl (hr_1.mono ln_1) et_6 fun g_2 cur_53 hM_1 a h => s_fieldAddr h rfl U88 rfl ti22 rfl rfl fun a h=>?_
    obtain ⟨N_11, hS', le_7, lo_2⟩ := hS.freeze 2 rfl
    replace hS : Sep w0 w_7 [N_11, _, _, Mem.no] Z := hS'
    obtain ⟨w_8, M_4, hs', hS', ho_1⟩ := Own.stored (P := Try.prog) (p := 2) (t := 22) (o := 1) (nv := v_5) (vs := [v_5]) (u' := (⟨t_6.Key, t_5⟩ : api_Pair)) hS rfl ((hr_1.mono ln_1).mono (le_2.trans (le_5.trans (le_6.trans le_7)))) hM_1 et_6 ti22 (hr_5.rd lo_2 (Mem.no_le _)).cellsA rfl rfl (oc (hr_5.rd lo_2 (Mem.no_le _)).one on0) (by intro cs hk; obtain ⟨v_6, v_7, rfl, hr_6, hr_7⟩ := k_api_Pair.open' hk; exact k_api_Pair.mk' hr_6 (hr_5.rd lo_2 (Mem.no_le _)))
    refine s_store h rfl rfl hs' ?_
    replace hS : Sep w0 w_8 [_, _, M_4, _] Z := hS'
    refine nx <| qr <| mv h rfl fun a h=>mv h rfl fun a h=>s_len h rfl U30 rfl hp0_0 fun a h=>mv h rfl fun a h=>s_build h rfl ti91 pl91 rfl (.cons rfl (.cons hr_4.cells .nil)) (cs := [iV 0, v_4, iV (x0.length : Int)]) (by kernel_rfl) fun a h=>sg h rfl fun a h=>?_
    refine sto 1 h rfl rfl hS rfl ti91 rfl rfl rfl (oa 1 rfl (oc hr_4.one (oz rfl))) fun w_9 hS' => ?_
    replace hS : Sep w0 w_9 [_, bx g_1 91 [_, v_4, iV (x0.length : Int)], _, _] Z := hS'
    refine nx <| wp_ret (x_then_r ?_)
    obtain rfl := Option.some.inj H
    exact f_ret h (rs := [.tmp 6, .cell 7 91]) rfl (.tmp rfl (.cell rfl (hS.load_agg (p := 1) (us := [iV 0, v_4, iV (x0.length : Int)]) rfl U91 rfl ti91 rfl rfl) .nil)) ⟨_, rfl, v_1, v_4, N_11, M_4, rfl, (hS.sel [0, 2] (by decide)), (ho_1.mono mr), (hr_4.mono (le_2.trans (le_5.trans (le_6.trans le_7))))⟩
   ·refine c_cond_f h rfl (df hc_2) <| wp_skip <| x_then_n (hKJ_3 _ _ ?_)
    refine c_seq fun KJ_4 hKJ_4 => qr <| mv h rfl fun a h=>s_len h rfl U30 rfl hp0_0 fun a h=>s_cmp (b := decide ((x0.length : Int) ≥ 8)) h rfl rfl rfl (.inr (.inr (.inr (.inr (.inr ⟨rfl, rfl⟩))))) fun a h=>wpList_nil <| x_then_n ?_
    obtain ⟨hc_4, H⟩ | ⟨hc_4, H⟩ := ii H
    ·refine c_cond_t h rfl (dt hc_4) <| qr <| mv h rfl fun a h=>?_
     obtain ⟨t_7, et_7, H⟩ := bs H
     refine s_call h rfl Try.call98 rfl (hocketref4_bad.calls 3 t_7 w0 _ _ _ mr (hS.enter [] (by decide))  et_7) ?_
     rintro _ w_10 ⟨v_8, N_12, M_5, rfl, hS', hr_8⟩
     intro a h
     obtain ⟨N_13, hS'', le_8, ln_5⟩ := hS.call [] (by decide) rfl (l' := []) (ow := [_]) rfl hS'
     replace hS : Sep w0 w_10 [N_13, _, _, _] Z := hS''
     refine sg h rfl fun a h=>?_
     refine sto 1 h rfl rfl hS rfl ti91 rfl rfl rfl (oa 1 rfl (oc hr_8.one (oz rfl))) fun w_11 hS' => ?_
     replace hS : Sep w0 w_11 [_, bx g_1 91 (E91 t_7 v_8), _, _] Z := hS'
     refine nx <| wp_ret (x_then_r ?_)
     obtain ⟨N_14, hS', le_9, lo_3⟩ := hS.freeze 2 rfl
     replace hS : Sep w0 w_11 [N_14, _, _, Mem.no] Z := hS'
     obtain rfl := Option.some.inj H
     exact f_ret h (rs := [.tmp 6, .cell 7 91]) rfl (.tmp rfl (.cell rfl (hS.load_agg (p := 1) (us := (E91 t_7 v_8)) rfl U91 rfl ti91 rfl rfl) .nil)) ⟨_, rfl, v_1, v_8, N_14, M_1, rfl, (hS.sel [0, 2] (by decide)), ((hr_1.mono ln_1).mono (le_2.trans (le_5.trans (le_8.trans le_9)))), (hr_8.rd lo_3 (Mem.no_le _))⟩
    ·refine c_cond_f h rfl (df hc_4) <| wp_skip <| x_then_n (hKJ_4 _ _ ?_)
     refine qr <| mv h rfl fun a h=>s_lenO h rfl U30 rfl (hr_1.mono ln_1) fun a h=>sg h rfl fun a h=>nx <| qr <| mv h rfl fun a h=>s_build h rfl ti88 pl88 rfl .nil (cs := [nS, nS]) (by kernel_rfl) fun a h=>?_
     have hq_1 : Reps k_api_Pair N_8 ([(⟨([] : List UInt8), ([] : List UInt8)⟩ : api_Pair)] : List api_Pair) _ := ((Reps.one (d := k_api_Pair) (x := (⟨([] : List UInt8), ([] : List UInt8)⟩ : api_Pair)) (k_api_Pair.mk' (Rd.nil _ _) (Rd.nil _ _))).append (Reps.nil k_api_Pair _))
     refine s_buildSlice h rfl U30 ti88 rfl rfl rfl (.cons rfl .nil) rfl rfl rfl hS hq_1 rfl fun w_12 v_9 M_6 hS' ho_2 a h => ?_
     replace hS : Sep w0 w_12 [_, _, _, M_6] Z := hS'
     obtain ⟨t_8, et_8, H⟩ := bs H
     refine s_append (J := N_8) (I' := N_8) (p := 2) 2932031007402 h rfl rfl rfl U30 ti88 rfl rfl rfl rfl hS rfl (hr_1.mono ln_1) (ho_2.src (hS.own 3)) (le_2.trans le_5) mr et_8 fun w_13 v_10 M_7 hS' ho_3 a h => ?_
     replace hS : Sep w0 w_13 [_, _, M_7, _] Z := hS'
     refine sg h rfl fun a h=>nx <| c_seq fun KJ_5 hKJ_5 => ?_
     have hJ_j_2 : ∀ (x_2 : List api_Pair), ∀ (x_3 : Int), hocketref4_Put.J2 K x1 x2 x0 x_2 x_3 = some r → ∀ (a : Act) (w_14 : World), (∃ (v_11 : Value) (N_15 : Mem) (M_8 : Mem), Fr 93 a [(0, p0_0), (1, p1_1), (2, p2_2), (6, nS), (7, .pointer (some ⟨g_1, 0, none⟩)), (8, v_11), (11, iV x_3)] ∧ Sep w0 w_14 [N_15, bx g_1 91 [iV 0, nS, iV 0], M_8, Mem.no] Z ∧ N_8.le N_15 ∧ Own k_api_Pair 88 M_8 N_15 v_11 x_2) → KJ_5 a w_14 := by
      clear H h hS a
      rintro x_2 x_3 H a w_14 ⟨v_11, N_15, M_8, h, hS, le_10, ho_4⟩
      unfold hocketref4_Put.J2 at H
      refine hKJ_5 _ _ <| qr <| mv h rfl fun a h=>mv h rfl fun a h=>mv h rfl fun a h=>?_
      obtain ⟨t_9, et_9, H⟩ := bs H
      refine s_call h rfl Try.call101 rfl (hocketref4_own.calls x1 _ t_9 w0 _ _ _ mr (hS.enter [] (by decide)) (hp1_1.mono (hA.trans (hS.le_zed []))) et_9) ?_
      rintro v_12 w_15 ⟨_, N_16, M_9, rfl, hS', hr_9⟩
      intro a h
      obtain ⟨N_17, hS'', le_11, ln_6⟩ := hS.call [] (by decide) rfl (l' := []) (ow := [_]) rfl hS'
      replace hS : Sep w0 w_15 [N_17, _, _, _, _] Z := hS''
      refine mv h rfl fun a h=>?_
      obtain ⟨t_10, et_10, H⟩ := bs H
      refine s_call h rfl Try.call101 rfl (hocketref4_own.calls x2 _ t_10 w0 _ _ _ mr (hS.enter [] (by decide)) (hp2_2.mono (hA.trans (hS.le_zed []))) et_10) ?_
      rintro v_13 w_16 ⟨_, N_18, M_10, rfl, hS', hr_10⟩
      intro a h
      obtain ⟨N_19, hS'', le_12, ln_7⟩ := hS.call [] (by decide) rfl (l' := []) (ow := [_]) rfl hS'
      replace hS : Sep w0 w_16 [N_19, _, _, _, _, _] Z := hS''
      refine s_build h rfl ti88 pl88 rfl (.cons hr_9.cells (.cons hr_10.cells .nil)) (cs := [v_12, v_13]) (by kernel_rfl) fun a h=>?_
      obtain ⟨t_11, et_11, H⟩ := bs H
      refine s_indexOwn h rfl U30 ti88 rfl rfl rfl ho_4 et_11 fun g_3 cur_116 hM_2 a h => ?_
      obtain ⟨N_20, hS', le_13, lo_4⟩ := hS.freeze 3 rfl
      replace hS : Sep w0 w_16 [N_20, _, _, _, Mem.no, _] Z := hS'
      obtain ⟨N_21, hS', le_14, lo_5⟩ := hS.freeze 4 rfl
      replace hS : Sep w0 w_16 [N_21, _, _, _, _, Mem.no] Z := hS'
      obtain ⟨w_17, M_11, hs', hS', ho_5⟩ := Own.stored (P := Try.prog) (p := 2) (t := 88) (o := 0) (nv := .agg ([v_12, v_13] : List Value).toArray) (vs := [v_12, v_13]) (u' := (⟨t_9, t_10⟩ : api_Pair)) hS rfl (ho_4.mono (le_11.trans (le_12.trans (le_13.trans le_14)))) hM_2 et_11 ti88 rfl rfl rfl (oc (hr_9.rd lo_4 (Mem.no_le _)).one (oc (hr_10.rd lo_5 (Mem.no_le _)).one on0)) (by intro cs hk; obtain ⟨v_14, v_15, rfl, hr_11, hr_12⟩ := k_api_Pair.open' hk; exact k_api_Pair.mk' ((hr_9.rd lo_4 (Mem.no_le _)).mono le_14) (hr_10.rd lo_5 (Mem.no_le _)))
      refine s_store h rfl rfl hs' ?_
      replace hS : Sep w0 w_17 [_, _, M_11, _, _, _] Z := hS'
      refine wpList_nil ?_
      replace h : Fr 93 a [(0, _), (6, _), (7, _), (8, _)] := h.keep [0, 6, 7, 8]
      refine x_then_n <| qr <| mv h rfl fun a h=>mv h rfl fun a h=>s_len h rfl U30 rfl hp0_0 fun a h=>s_arith (r := w64 ((x0.length : Int) + 1)) h rfl rfl rfl (.inl ⟨rfl, rfl⟩) fun a h=>s_build h rfl ti91 pl91 rfl (.cons rfl .nil) (cs := [iV 0, nS, iV (w64 ((x0.length : Int) + 1))]) (by kernel_rfl) fun a h=>sg h rfl fun a h=>?_
      refine sto 1 h rfl rfl hS rfl ti91 rfl rfl rfl (oz rfl) fun w_18 hS' => ?_
      replace hS : Sep w0 w_18 [_, bx g_1 91 [_, _, iV (w64 ((x0.length : Int) + 1))], _, _, _, _] Z := hS'
      refine nx <| wp_ret ?_
      obtain rfl := Option.some.inj H
      exact f_ret h (rs := [.tmp 6, .cell 7 91]) rfl (.tmp rfl (.cell rfl (hS.load_agg (p := 1) (us := [iV 0, nS, iV (w64 ((x0.length : Int) + 1))]) rfl U91 rfl ti91 rfl rfl) .nil)) ⟨_, rfl, v_11, nS, N_21, M_11, rfl, (hS.sel [0, 2] (by decide)), (ho_5.mono mr), (Rd.nil _ _)⟩
     clear hKJ_5
     refine c_block <| c_loop (fun k_1 a w_19 => ∃ (x_4 : List api_Pair) (x_5 : Int) (v_16 : Value) (N_22 : Mem) (M_12 : Mem), hocketref4_Put.L1 K x1 (fun v => hocketref4_Put.J2 K x1 x2 x0 v.1 v.2) k_1 (x_4, x_5) = some r ∧ Fr 93 a [(0, p0_0), (1, p1_1), (2, p2_2), (6, nS), (7, .pointer (some ⟨g_1, 0, none⟩)), (8, v_16), (11, iV x_5)] ∧ Sep w0 w_19 [N_22, bx g_1 91 [iV 0, nS, iV 0], M_12, Mem.no] Z ∧ N_8.le N_22 ∧ Own k_api_Pair 88 M_12 N_22 v_16 x_4) K ⟨t_8, (t_1.length : Int), v_10, N_8, M_7, H, (h.to rfl), (hS.sel [0, 1, 2, 1002] (by decide)), mr, (ho_3.mono mr)⟩ (fun a w h => by obtain ⟨_, _, _, _, _, H, _⟩ := h; cases (show (none : Option ((List api_Pair) × api_Result)) = some r from H)) ?_
     clear h hS a H
     rintro k_1 a w_19 KL_1 hKL_1 ⟨x_4, x_5, v_16, N_22, M_12, H, h, hS, le_15, ho_6⟩
     replace H : hocketref4_Put.B1 K x1 (fun v => hocketref4_Put.J2 K x1 x2 x0 v.1 v.2) (hocketref4_Put.L1 K x1 (fun v => hocketref4_Put.J2 K x1 x2 x0 v.1 v.2) k_1) x_4 x_5 = some r := H
     unfold hocketref4_Put.B1 at H
     refine c_seq fun KJ_6 hKJ_6 => c_seq fun KJ_7 hKJ_7 => ?_
     have hJ_j_3 : ∀ (x_6 : Bool), hocketref4_Put.J3 K x_4 x_5 (hocketref4_Put.L1 K x1 (fun v => hocketref4_Put.J2 K x1 x2 x0 v.1 v.2) k_1) (fun v => hocketref4_Put.J2 K x1 x2 x0 v.1 v.2) x_6 = some r → ∀ (a : Act) (w_20 : World), (∃ (N_23 : Mem), Fr 93 a [(0, p0_0), (1, p1_1), (2, p2_2), (6, nS), (7, .pointer (some ⟨g_1, 0, none⟩)), (8, v_16), (11, iV x_5), (69, .bool x_6)] ∧ Sep w0 w_20 [N_23, bx g_1 91 [iV 0, nS, iV 0], M_12, Mem.no] Z ∧ N_22.le N_23) → KJ_7 a w_20 := by
      clear H h hS a
      rintro x_6 H a w_20 ⟨N_23, h, hS, le_16⟩
      unfold hocketref4_Put.J3 at H
      refine hKJ_7 _ _ ?_
      obtain ⟨hc_5, H⟩ | ⟨hc_5, H⟩ := ii H
      ·refine c_cond_t h rfl hc_5 <| wp_skip <| x_then_n (hKJ_6 _ _ ?_)
       refine wp_seq <| c_block <| wp_region_lit <| mv h rfl fun a h=>mv h rfl fun a h=>mv h rfl fun a h=>mv h rfl fun a h=>s_arith (r := w64 (x_5 - 1)) h rfl rfl rfl (.inr (.inl ⟨rfl, rfl⟩)) fun a h=>?_
       obtain ⟨t_12, et_12, H⟩ := bs H
       refine v_indexO h rfl U30 ti88 rfl rfl rfl ho_6 (hS.own 2) et_12 fun ad_2 cs_2 hk_2 hc_6 => ?_
       obtain ⟨v_17, v_18, rfl, hr_13, hr_14⟩ := k_api_Pair.open' hk_2
       intro a h
       refine s_load h rfl rfl (el_agg (o := 0) (us := [v_17, v_18]) hc_6 U88 rfl ti88 rfl rfl) fun a h=>?_
       obtain ⟨t_13, et_13, H⟩ := bs H
       refine s_indexOwn h rfl U30 ti88 rfl rfl rfl ho_6 et_13 fun g_4 cur_155 hM_3 a h => ?_
       obtain ⟨w_21, M_13, hs', hS', ho_7⟩ := Own.stored (P := Try.prog) (p := 2) (t := 88) (o := 0) (nv := .agg ([v_17, v_18] : List Value).toArray) (vs := [v_17, v_18]) (u' := t_12) hS rfl (ho_6.mono le_16) hM_3 et_13 ti88 rfl rfl rfl (oc hr_13.one (oc hr_14.one on0)) (by intro cs hk; obtain ⟨v_19, v_20, rfl, hr_15, hr_16⟩ := k_api_Pair.open' hk; exact k_api_Pair.mk' (hr_13.mono le_16) (hr_14.mono le_16))
       refine s_store h rfl rfl hs' ?_
       replace hS : Sep w0 w_21 [_, _, M_13, _] Z := hS'
       refine wpList_nil ?_
       replace h : Fr 93 a [(0, _), (1, _), (2, _), (6, _), (7, _), (8, _), (11, _)] := h.keep [0, 1, 2, 6, 7, 8, 11]
       refine x_block_n <| x_then_n <| wp_region_lit <| mv h rfl fun a h=>s_arith (r := w64 (x_5 - 1)) h rfl rfl rfl (.inr (.inl ⟨rfl, rfl⟩)) fun a h=>sg h rfl fun a h=>wpList_nil <| x_then_n (hKL_1 _ _ ?_)
       exact ⟨(x_4.set (x_5).toNat t_12), w64 (x_5 - 1), v_16, N_23, M_13, H, (h.to rfl), (hS.sel [0, 1, 2, 1002] (by decide)), (le_15.trans le_16), (ho_7.mono mr)⟩
      ·refine c_cond_f h rfl (ef hc_5) <| wp_exit (x_then_x (x_then_x (x_block_t ?_)))
       exact x_then_n (hJ_j_2 x_4 x_5 H _ _ ⟨v_16, N_23, M_12, (h.to rfl), (hS.sel [0, 1, 2, 1002] (by decide)), (le_15.trans le_16), (ho_6.mono le_16)⟩)
     clear hKJ_7
     refine h_begin (S := fun w => Sep w0 w [N_22, bx g_1 91 [iV 0, nS, iV 0], M_12, Mem.no] Z) 14 (by kernel_rfl) rfl (bA 14 0) (by kernel_rfl) hS fun w_22 hS => ?_
     refine t_take 0 (bA 14 1) rfl rfl rfl rfl h (hS.sub (.cons mr (.rr (.rr (.zz .ii))))) (v := iV x_5) (fun w hS => r_move h rfl) fun a h=>t_take 1 (bA 14 3) rfl rfl rfl rfl h (hS.sub (.cons mr (.rr (.rr (.zz .ii))))) (v := .bool (decide (x_5 > 0))) (fun w hS => r_cmp (b := decide (x_5 > 0)) h rfl rfl (.inr (.inr (.inr (.inr (.inl ⟨rfl, rfl⟩)))))) fun a h=>t_take 2 (bA 14 7) rfl rfl rfl rfl h (hS.sub (.cons mr (.rr (.rr (.zz .ii))))) (v := .bool (decide (x_5 > 0))) (fun w hS => r_move h rfl) fun a h=>?_
     obtain ⟨hc_7, H⟩ | ⟨hc_7, H⟩ := ii H
     ·refine t_take_on 3 (bA 14 15) rfl rfl rfl rfl (dt hc_7) rfl rfl h (hS.sub (.cons mr (.rr (.rr (.zz .ii))))) (v := p1_1) (fun w hS => r_move h rfl) fun a h=>t_take_on 4 (bA 14 31) rfl rfl rfl rfl (dt hc_7) rfl rfl h (hS.sub (.cons mr (.rr (.rr (.zz .ii))))) (v := .string ⟨x1.toArray⟩) (fun w hS => r_b2s h U22 U5 U9 rfl hp1_1 (hA.trans hS.old)) fun a h=>t_take_on 5 (bA 14 63) rfl rfl rfl rfl (dt hc_7) rfl rfl h (hS.sub (.cons mr (.rr (.rr (.zz .ii))))) (v := v_16) (fun w hS => r_move h rfl) fun a h=>t_take_on 6 (bA 14 127) rfl rfl rfl rfl (dt hc_7) rfl rfl h (hS.sub (.cons mr (.rr (.rr (.zz .ii))))) (v := iV x_5) (fun w hS => r_move h rfl) fun a h=>t_take_on 7 (bA 14 255) rfl rfl rfl rfl (dt hc_7) rfl rfl h (hS.sub (.cons mr (.rr (.rr (.zz .ii))))) (v := iV (w64 (x_5 - 1))) (fun w hS => r_arith (r := w64 (x_5 - 1)) h rfl rfl (.inr (.inl ⟨rfl, rfl⟩))) fun a h=>?_
      obtain ⟨t_14, et_14, H⟩ := bs H
      refine t_takeE_on 8 (bA 14 511) rfl rfl rfl rfl (dt hc_7) rfl rfl h (hS.sub (.cons mr (.rr (.rr (.zz .ii))))) (f := fun ad => .pointer (some ad)) (r_indexO h U30 ti88 rfl rfl rfl ho_6 et_14) ?_
      rintro ad_3 ⟨cs_3, hk_3, hc_8⟩
      obtain ⟨v_21, v_22, rfl, hr_17, hr_18⟩ := k_api_Pair.open' hk_3
      intro a h
      refine t_take_on 9 (bA 14 1023) rfl rfl rfl rfl (dt hc_7) rfl rfl h (hS.sub (.cons mr (.rr (.rr (.zz .ii))))) (v := .pointer (some (ad_3.add 0))) (fun w hS => r_fieldAddr h U88 rfl ti22 rfl rfl rfl) fun a h=>t_take_on 10 (bA 14 2047) rfl rfl rfl rfl (dt hc_7) rfl rfl h (hS.sub (.cons mr (.rr (.rr (.zz .ii))))) (v := v_21) (fun w hS => r_load h rfl (el_one (o := 0) (fun j c h => Mem.cell_le (hS.own 2) (hc_8 j c h)) U22 rfl rfl)) fun a h=>t_take_on 11 (bA 14 4095) rfl rfl rfl rfl (dt hc_7) rfl rfl h (hS.sub (.cons mr (.rr (.rr (.zz .ii))))) (v := .string ⟨t_14.Key.toArray⟩) (fun w hS => r_b2s h U22 U5 U9 rfl hr_17 (mr.trans (hS.own 0))) fun a h=>t_take_on 12 (bA 14 8191) rfl rfl rfl rfl (dt hc_7) rfl rfl h (hS.sub (.cons mr (.rr (.rr (.zz .ii))))) (v := .bool (slt x1 t_14.Key)) (fun w hS => r_strLess (b := slt x1 t_14.Key) h rfl rfl (.inl ⟨rfl, rfl⟩)) fun a h=>t_take 13 (bA 14 16383) rfl rfl rfl rfl h (hS.sub (.cons mr (.rr (.rr (.zz .ii))))) (v := .bool (slt x1 t_14.Key)) (fun w hS => r_pick_t h rfl (dt hc_7) rfl) fun a h=>?_
      refine h_done (by kernel_rfl) ?_
      replace h : Fr 93 a [(0, _), (1, _), (2, _), (6, _), (7, _), (8, _), (11, _), (69, .bool (slt x1 t_14.Key))] := h.keep [0, 1, 2, 6, 7, 8, 11, 69]
      exact x_then_n (hJ_j_3 (slt x1 t_14.Key) H _ _ ⟨N_22, (h.to rfl), (hS.sel [0, 1, 2, 1002] (by decide)), mr⟩)
     ·refine t_take_off 3 (bA 14 15) rfl rfl rfl rfl (.inl (congrArg Value.bool (df hc_7))) rfl rfl h (hS.sub (.cons mr (.rr (.rr (.zz .ii))))) fun a h=>t_take_off 4 (bA 14 31) rfl rfl rfl rfl (.inl (congrArg Value.bool (df hc_7))) rfl rfl h (hS.sub (.cons mr (.rr (.rr (.zz .ii))))) fun a h=>t_take_off 5 (bA 14 63) rfl rfl rfl rfl (.inl (congrArg Value.bool (df hc_7))) rfl rfl h (hS.sub (.cons mr (.rr (.rr (.zz .ii))))) fun a h=>t_take_off 6 (bA 14 127) rfl rfl rfl rfl (.inl (congrArg Value.bool (df hc_7))) rfl rfl h (hS.sub (.cons mr (.rr (.rr (.zz .ii))))) fun a h=>t_take_off 7 (bA 14 255) rfl rfl rfl rfl (.inl (congrArg Value.bool (df hc_7))) rfl rfl h (hS.sub (.cons mr (.rr (.rr (.zz .ii))))) fun a h=>t_take_off 8 (bA 14 511) rfl rfl rfl rfl (.inl (congrArg Value.bool (df hc_7))) rfl rfl h (hS.sub (.cons mr (.rr (.rr (.zz .ii))))) fun a h=>t_take_off 9 (bA 14 1023) rfl rfl rfl rfl (.inl (congrArg Value.bool (df hc_7))) rfl rfl h (hS.sub (.cons mr (.rr (.rr (.zz .ii))))) fun a h=>?_
      refine t_take_off 10 (bA 14 2047) rfl rfl rfl rfl (.inl (congrArg Value.bool (df hc_7))) rfl rfl h (hS.sub (.cons mr (.rr (.rr (.zz .ii))))) fun a h=>t_take_off 11 (bA 14 4095) rfl rfl rfl rfl (.inl (congrArg Value.bool (df hc_7))) rfl rfl h (hS.sub (.cons mr (.rr (.rr (.zz .ii))))) fun a h=>t_take_off 12 (bA 14 8191) rfl rfl rfl rfl (.inl (congrArg Value.bool (df hc_7))) rfl rfl h (hS.sub (.cons mr (.rr (.rr (.zz .ii))))) fun a h=>t_take 13 (bA 14 16383) rfl rfl rfl rfl h (hS.sub (.cons mr (.rr (.rr (.zz .ii))))) (v := .bool false) (fun w hS => r_pick_f h rfl (df hc_7) rfl) fun a h=>h_done (by kernel_rfl) ?_
      replace h : Fr 93 a [(0, _), (1, _), (2, _), (6, _), (7, _), (8, _), (11, _), (69, .bool false)] := h.keep [0, 1, 2, 6, 7, 8, 11, 69]
      exact x_then_n (hJ_j_3 false H _ _ ⟨N_22, (h.to rfl), (hS.sel [0, 1, 2, 1002] (by decide)), mr⟩)
 clear hKJ_2
 refine wp_region_lit <| mv h rfl fun a h=>s_len h rfl U22 rfl hp1_1 fun a h=>s_cmp (b := decide ((x1.length : Int) > 8)) h rfl rfl rfl (.inr (.inr (.inr (.inr (.inl ⟨rfl, rfl⟩))))) fun a h=>mv h rfl fun a h=>?_
 obtain ⟨hc_9, H⟩ | ⟨hc_9, H⟩ := ii H
 ·refine of h rfl rfl (dt hc_9) fun a h=>of h rfl rfl (dt hc_9) fun a h=>of h rfl rfl (dt hc_9) fun a h=>pt h rfl (dt hc_9) fun a h=>wpList_nil ?_
  exact x_then_n (hJ_j_1 true H _ _ ⟨N_2, (h.to rfl), (hS.sel [0, 1, 2] (by decide)), mr⟩)
 ·refine s_on h rfl rfl (df hc_9) <| mv h rfl fun a h=>s_on h rfl rfl (df hc_9) <| s_len h rfl U22 rfl hp2_2 fun a h=>s_on h rfl rfl (df hc_9) <| s_cmp (b := decide ((x2.length : Int) > 16)) h rfl rfl rfl (.inr (.inr (.inr (.inr (.inl ⟨rfl, rfl⟩))))) fun a h=>pf h rfl (df hc_9) fun a h=>wpList_nil ?_
  exact x_then_n (hJ_j_1 (decide ((x2.length : Int) > 16)) H _ _ ⟨N_2, (h.to rfl), (hS.sel [0, 1, 2] (by decide)), mr⟩)

set_option maxHeartbeats 4000000 in
set_option maxRecDepth 20000 in
theorem hocketref4_Get.calls (K : Nat) (x0 : List api_Pair) (p0_0 : Value) (x1 : List UInt8) (p1_1 : Value) (r : api_Result) (w0 w : World) (Z A : Mem) (hA : A.le Z) (hS : Sep w0 w [] Z) (hp0_0 : Rd k_api_Pair A p0_0 x0) (hp1_1 : Rd Kd.u8 A p1_1 x1)
    (H : hocketref4_Get.f K x0 x1 = some r) :
    Calls Try.prog 113 [p0_0, p1_1].toArray w (Ret fun v w' => ∃ (u0 : Value) (N : Mem) (M0 : Mem), v = .agg (E91 r u0).toArray ∧ Sep w0 w' [N, M0] Z ∧ Own Kd.u8 5 M0 Mem.no u0 r.Val) := by
 unfold hocketref4_Get.f at H
 refine f_enter _ Try.func113 rfl Try.ntmps113 rfl fun a h=>?_
 replace h : Fr 19 a [(0, p0_0), (1, p1_1)] := h
 replace hS := hS.start
 refine qr <| v_alloc h rfl ti91 hS fun w_1 g_1 hS' a h => ?_
 replace hS : Sep w0 w_1 [_, bx g_1 91 [iV 0, nS, iV 0]] Z := hS'
 refine nx <| c_seq fun KJ_1 hKJ_1 => qr <| mv h rfl fun a h=>mv h rfl fun a h=>?_
 obtain ⟨t_1, et_1, H⟩ := bs H
 refine s_call h rfl Try.call121 rfl (hocketref4_key.calls K x0 _ x1 _ t_1 w0 _ _ _ mr (hS.enter [] (by decide)) (hp0_0.mono (hA.trans (hS.le_zed []))) (hp1_1.mono (hA.trans (hS.le_zed []))) et_1) ?_
 rintro _ w_2 ⟨N_1, rfl, hS'⟩
 intro a h
 obtain ⟨N_2, hS'', le_1, ln_1⟩ := hS.call [] (by decide) rfl (l' := []) (ow := []) rfl hS'
 replace hS : Sep w0 w_2 [N_2, _] Z := hS''
 refine sg h rfl fun a h=>nx <| qr <| mv h rfl fun a h=>s_cmp (b := decide (t_1 ≥ 0)) h rfl rfl rfl (.inr (.inr (.inr (.inr (.inr ⟨rfl, rfl⟩))))) fun a h=>wpList_nil <| x_then_n ?_
 obtain ⟨hc_1, H⟩ | ⟨hc_1, H⟩ := ii H
 ·refine c_cond_t h rfl (dt hc_1) <| qr <| mv h rfl fun a h=>mv h rfl fun a h=>?_
  obtain ⟨t_2, et_2, H⟩ := bs H
  refine v_index h rfl U30 ti88 rfl rfl rfl hp0_0 (hA.trans hS.old) et_2 fun ad_1 cs_1 hk_1 hc_2 => ?_
  obtain ⟨v_1, v_2, rfl, hr_1, hr_2⟩ := k_api_Pair.open' hk_1
  intro a h
  refine s_fieldAddr h rfl U88 rfl ti22 rfl rfl fun a h=>s_load h rfl rfl (el_one (o := 1) hc_2 U22 rfl rfl) fun a h=>?_
  obtain ⟨t_3, et_3, H⟩ := bs H
  refine s_call h rfl Try.call101 rfl (hocketref4_own.calls t_2.Val _ t_3 w0 _ _ _ mr (hS.enter [] (by decide)) (hr_2.mono (hA.trans (hS.le_zed []))) et_3) ?_
  rintro v_3 w_3 ⟨_, N_3, M_1, rfl, hS', hr_3⟩
  intro a h
  obtain ⟨N_4, hS'', le_2, ln_2⟩ := hS.call [] (by decide) rfl (l' := []) (ow := [_]) rfl hS'
  replace hS : Sep w0 w_3 [N_4, _, _] Z := hS''
  refine s_build h rfl ti91 pl91 rfl (.cons hr_3.cells .nil) (cs := [iV 0, v_3, iV 0]) (by kernel_rfl) fun a h=>?_
  refine sto 1 h rfl rfl hS rfl ti91 rfl rfl rfl (oa 1 rfl (oc hr_3.one (oz rfl))) fun w_4 hS' => ?_
  replace hS : Sep w0 w_4 [_, bx g_1 91 [_, v_3, _], _] Z := hS'
  refine wpList_nil ?_
  replace h : Fr 19 a [(4, .pointer (some ⟨g_1, 0, none⟩))] := h.keep [4]
  refine x_then_n <| wp_ret (x_then_r ?_)
  obtain rfl := Option.some.inj H
  exact f_ret h (rs := [.cell 4 91]) rfl (.cell rfl (hS.load_agg (p := 1) (us := [iV 0, v_3, iV 0]) rfl U91 rfl ti91 rfl rfl) .nil) ⟨_, rfl, v_3, N_4, M_1, rfl, (hS.sel [0, 2] (by decide)), hr_3⟩
 ·refine c_cond_f h rfl (df hc_1) <| wp_skip <| x_then_n (hKJ_1 _ _ ?_)
  refine wp_seq <| wp_region_lit ?_
  obtain ⟨t_4, et_4, H⟩ := bs H
  refine s_call h rfl Try.call98 rfl (hocketref4_bad.calls 5 t_4 w0 _ _ _ mr (hS.enter [] (by decide))  et_4) ?_
  rintro _ w_5 ⟨v_4, N_5, M_2, rfl, hS', hr_4⟩
  intro a h
  obtain ⟨N_6, hS'', le_3, ln_3⟩ := hS.call [] (by decide) rfl (l' := []) (ow := [_]) rfl hS'
  replace hS : Sep w0 w_5 [N_6, _, _] Z := hS''
  refine sto 1 h rfl rfl hS rfl ti91 rfl rfl rfl (oa 1 rfl (oc hr_4.one (oz rfl))) fun w_6 hS' => ?_
  replace hS : Sep w0 w_6 [_, bx g_1 91 (E91 t_4 v_4), _] Z := hS'
  refine wpList_nil ?_
  replace h : Fr 19 a [(4, .pointer (some ⟨g_1, 0, none⟩))] := h.keep [4]
  refine x_then_n <| wp_ret ?_
  obtain rfl := Option.some.inj H
  exact f_ret h (rs := [.cell 4 91]) rfl (.cell rfl (hS.load_agg (p := 1) (us := (E91 t_4 v_4)) rfl U91 rfl ti91 rfl rfl) .nil) ⟨_, rfl, v_4, N_6, M_2, rfl, (hS.sel [0, 2] (by decide)), hr_4⟩

set_option maxHeartbeats 4000000 in
set_option maxRecDepth 20000 in
theorem hocketref4_Del.calls (K : Nat) (x0 : List api_Pair) (p0_0 : Value) (x1 : List UInt8) (p1_1 : Value) (r : (List api_Pair) × api_Result) (w0 w : World) (Z A : Mem) (hA : A.le Z) (hS : Sep w0 w [] Z) (hp0_0 : Rd k_api_Pair A p0_0 x0) (hp1_1 : Rd Kd.u8 A p1_1 x1)
    (H : hocketref4_Del.f K x0 x1 = some r) :
    Calls Try.prog 114 [p0_0, p1_1].toArray w (Ret fun v w' => ∃ (u0 : Value) (u1 : Value) (N : Mem) (M0 : Mem), v = .tuple [u0, .agg (E91 r.2 u1).toArray].toArray ∧ Sep w0 w' [N, M0] Z ∧ Own k_api_Pair 88 M0 N u0 r.1 ∧ Rd Kd.u8 N u1 r.2.Val) := by
 unfold hocketref4_Del.f at H
 refine f_enter _ Try.func114 rfl Try.ntmps114 rfl fun a h=>?_
 replace h : Fr 33 a [(0, p0_0), (1, p1_1)] := h
 replace hS := hS.start
 refine qr <| sg h rfl fun a h=>v_alloc h rfl ti91 hS fun w_1 g_1 hS' a h => ?_
 replace hS : Sep w0 w_1 [_, bx g_1 91 [iV 0, nS, iV 0]] Z := hS'
 refine nx <| qr <| mv h rfl fun a h=>?_
 obtain ⟨t_1, et_1, H⟩ := bs H
 refine s_call h rfl Try.call103 rfl (hocketref4_pairs.calls K x0 _ t_1 w0 _ _ _ mr (hS.enter [] (by decide)) (hp0_0.mono (hA.trans (hS.le_zed []))) et_1) ?_
 rintro v_1 w_2 ⟨_, N_1, M_1, rfl, hS', hr_1⟩
 intro a h
 obtain ⟨N_2, hS'', le_1, ln_1⟩ := hS.call [] (by decide) rfl (l' := []) (ow := [_]) rfl hS'
 replace hS : Sep w0 w_2 [N_2, _, _] Z := hS''
 refine sg h rfl fun a h=>nx <| qr <| mv h rfl fun a h=>mv h rfl fun a h=>?_
 obtain ⟨t_2, et_2, H⟩ := bs H
 refine s_call h rfl Try.call121 rfl (hocketref4_key.calls K x0 _ x1 _ t_2 w0 _ _ _ mr (hS.enter [] (by decide)) (hp0_0.mono (hA.trans (hS.le_zed []))) (hp1_1.mono (hA.trans (hS.le_zed []))) et_2) ?_
 rintro _ w_3 ⟨N_3, rfl, hS'⟩
 intro a h
 obtain ⟨N_4, hS'', le_2, ln_2⟩ := hS.call [] (by decide) rfl (l' := []) (ow := []) rfl hS'
 replace hS : Sep w0 w_3 [N_4, _, _] Z := hS''
 refine sg h rfl fun a h=>nx <| c_seq fun KJ_1 hKJ_1 => qr <| mv h rfl fun a h=>s_cmp (b := decide (t_2 < 0)) h rfl rfl rfl (.inr (.inr (.inl ⟨rfl, rfl⟩))) fun a h=>wpList_nil ?_
 replace h : Fr 33 a [(4, nS), (5, .pointer (some ⟨g_1, 0, none⟩)), (6, v_1), (7, iV t_2), (15, .bool (decide (t_2 < 0)))] := h.keep [4, 5, 6, 7, 15]
 refine x_then_n ?_
 obtain ⟨hc_1, H⟩ | ⟨hc_1, H⟩ := ii H
 ·refine c_cond_t h rfl (dt hc_1) <| qr <| mv h rfl fun a h=>?_
  obtain ⟨t_3, et_3, H⟩ := bs H
  refine s_call h rfl Try.call98 rfl (hocketref4_bad.calls 5 t_3 w0 _ _ _ mr (hS.enter [] (by decide))  et_3) ?_
  rintro _ w_4 ⟨v_2, N_5, M_2, rfl, hS', hr_2⟩
  intro a h
  obtain ⟨N_6, hS'', le_3, ln_3⟩ := hS.call [] (by decide) rfl (l' := []) (ow := [_]) rfl hS'
  replace hS : Sep w0 w_4 [N_6, _, _, _] Z := hS''
  refine sg h rfl fun a h=>?_
  refine sto 1 h rfl rfl hS rfl ti91 rfl rfl rfl (oa 1 rfl (oc hr_2.one (oz rfl))) fun w_5 hS' => ?_
  replace hS : Sep w0 w_5 [_, bx g_1 91 (E91 t_3 v_2), _, _] Z := hS'
  refine nx <| wp_ret (x_then_r ?_)
  obtain ⟨N_7, hS', le_4, lo_1⟩ := hS.freeze 2 rfl
  replace hS : Sep w0 w_5 [N_7, _, _, Mem.no] Z := hS'
  obtain rfl := Option.some.inj H
  exact f_ret h (rs := [.tmp 4, .cell 5 91]) rfl (.tmp rfl (.cell rfl (hS.load_agg (p := 1) (us := (E91 t_3 v_2)) rfl U91 rfl ti91 rfl rfl) .nil)) ⟨_, rfl, v_1, v_2, N_7, M_1, rfl, (hS.sel [0, 2] (by decide)), ((hr_1.mono ln_1).mono (le_2.trans (le_3.trans le_4))), (hr_2.rd lo_1 (Mem.no_le _))⟩
 ·refine c_cond_f h rfl (df hc_1) <| wp_skip <| x_then_n (hKJ_1 _ _ ?_)
  refine qr <| mv h rfl fun a h=>mv h rfl fun a h=>?_
  obtain ⟨t_4, et_4, H⟩ := bs H
  refine v_indexO h rfl U30 ti88 rfl rfl rfl (hr_1.mono ln_1) (hS.own 2) et_4 fun ad_1 cs_1 hk_1 hc_2 => ?_
  obtain ⟨v_3, v_4, rfl, hr_3, hr_4⟩ := k_api_Pair.open' hk_1
  intro a h
  refine s_fieldAddr h rfl U88 rfl ti22 rfl rfl fun a h=>s_load h rfl rfl (el_one (o := 1) hc_2 U22 rfl rfl) fun a h=>sg h rfl fun a h=>nx <| c_seq fun KJ_2 hKJ_2 => h_begin (S := fun w => Sep w0 w [N_4, Mem.no, Mem.no] Z) 12 (by kernel_rfl) rfl (bA 12 0) (by kernel_rfl) hS fun w_6 hS => ?_
  refine t_take 0 (bA 12 1) rfl rfl rfl rfl h (hS.sub (.cons mr (.zz (.zz .ii)))) (v := v_1) (fun w hS => r_move h rfl) fun a h=>t_take 1 (bA 12 3) rfl rfl rfl rfl h (hS.sub (.cons mr (.zz (.zz .ii)))) (v := iV t_2) (fun w hS => r_move h rfl) fun a h=>?_
  obtain ⟨u_1, eu_1, H⟩ := bs H
  refine t_takeE 2 (bA 12 7) rfl rfl rfl rfl h (hS.sub (.cons mr (.zz (.zz .ii)))) (f := fun v => v) (r_piece h U30 ti88 rfl rfl (hr_1.mono ln_1) (hr_1.mono ln_1).room rfl rfl (must_some eu_1)) fun v_5 hq_1 a h => t_take 3 (bA 12 15) rfl rfl rfl rfl h (hS.sub (.cons mr (.zz (.zz .ii)))) (v := v_1) (fun w hS => r_move h rfl) fun a h=>t_take 4 (bA 12 31) rfl rfl rfl rfl h (hS.sub (.cons mr (.zz (.zz .ii)))) (v := iV t_2) (fun w hS => r_move h rfl) fun a h=>t_take 5 (bA 12 63) rfl rfl rfl rfl h (hS.sub (.cons mr (.zz (.zz .ii)))) (v := iV (w64 (t_2 + 1))) (fun w hS => r_arith (r := w64 (t_2 + 1)) h rfl rfl (.inl ⟨rfl, rfl⟩)) fun a h=>?_
  obtain ⟨u_2, eu_2, H⟩ := bs H
  refine t_takeE 6 (bA 12 127) rfl rfl rfl rfl h (hS.sub (.cons mr (.zz (.zz .ii)))) (f := fun v => v) (r_piece h U30 ti88 rfl rfl (hr_1.mono ln_1) (hr_1.mono ln_1).room rfl rfl (must_some eu_2)) fun v_6 hq_2 a h => t_take 8 (bA 12 383) rfl rfl rfl rfl h (hS.sub (.cons mr (.zz (.zz .ii)))) (v := v_4) (fun w hS => r_move h rfl) fun a h=>t_take 9 (bA 12 895) rfl rfl rfl rfl h (hS.sub (.cons mr (.zz (.zz .ii)))) (v := .agg ([iV 0, v_4, iV 0] : List Value).toArray) (fun w hS => r_build h ti91 pl91 rfl (.cons hr_4.cells .nil) (cs := [iV 0, v_4, iV 0]) (by kernel_rfl)) fun a h=>h_event 7 (bA 12 1023) rfl (by kernel_rfl) (by kernel_rfl) ?_
  obtain ⟨u_3, eu_3, H⟩ := bs H
  refine s_appendP (p := 2) h rfl U30 ti88 rfl rfl rfl (hr_1.mono ln_1) (by simpa using hq_1) hq_2 (by have := (must_some eu_1); have := (must_some eu_2); have := (must_some eu_3); omega) (by have := (must_some eu_1); have := (must_some eu_2); have := (must_some eu_3); omega) hS rfl fun w_7 v_7 M_3 hS' ho_1 hr_5 a h => ?_
  replace hS : Sep w0 w_7 [_, _, M_3] Z := hS'
  refine ne (hS.sub (.cons mr (.zz (.zz .ii)))) fun hs => ?_
  refine t_take 10 (bA 12 2047) rfl rfl rfl rfl h hs (v := v_7) (fun w hS => r_assign h rfl) fun a h=>h_event 11 (bA 12 4095) rfl (by kernel_rfl) (by kernel_rfl) ?_
  refine sto 1 h rfl rfl hS rfl ti91 rfl rfl rfl (oa 1 rfl (oc hr_4.one (oz rfl))) fun w_8 hS' => ?_
  replace hS : Sep w0 w_8 [_, bx g_1 91 [_, v_4, _], _] Z := hS'
  refine ne (hS.sub (.cons mr (.zz (.zz .ii)))) fun hs => ?_
  refine h_done (by kernel_rfl) <| x_then_n (hKJ_2 _ _ ?_)
  refine wp_ret ?_
  obtain rfl := Option.some.inj H
  exact f_ret h (rs := [.tmp 4, .cell 5 91]) rfl (.tmp rfl (.cell rfl (hS.load_agg (p := 1) (us := [iV 0, v_4, iV 0]) rfl U91 rfl ti91 rfl rfl) .nil)) ⟨_, rfl, v_7, v_4, N_4, M_3, rfl, (hS.sel [0, 2] (by decide)), (ho_1.mono le_2), (hr_4.mono le_2)⟩


end Go.Proofs
