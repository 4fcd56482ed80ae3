/- What the calls do: each function once. -/
import Derived.Test.YtdjkljabfdcbnaaFramBurstsc3
namespace Go.Proofs
open Go.Gp
set_option linter.unusedVariables false
set_option maxHeartbeats 4000000 in
set_option maxRecDepth 20000 in
theorem fram_Sound.calls (K : Nat) (x0 : List UInt8) (p0_0 : Value) (r : (List UInt8) × Bool) (w0 w : World) (Z A : Mem) (hA : A.le Z) (hS : Sep w0 w [] Z) (hp0_0 : Rd Kd.u8 A p0_0 x0)
    (H : fram_Sound.f K x0 = some r) :
    Calls Try.prog 41 [p0_0].toArray w (Ret fun v w' => ∃ (u0 : Value) (N : Mem), v = .tuple [u0, .bool r.2].toArray ∧ Sep w0 w' [N] Z ∧ Rd Kd.u8 (A.un N) u0 r.1) := by
 unfold fram_Sound.f at H
 refine f_enter _ Try.func41 rfl Try.ntmps41 rfl fun a hm => ?_
 replace hm : Fr 37 a [(0, p0_0)] := hm
 replace hS := hS.start
 replace hS : Sep w0 w [_] Z := hS
 refine wp_seq <| wp_region_lit <| s_assign hm rfl rfl fun a hm => s_assign hm rfl rfl fun a hm => wpList_nil ?_
 replace hm : Fr 37 a [(0, _), (2, .slice none 0 0), (3, .bool false)] := hm.keep [0, 2, 3]
 refine x_then_n <| c_seq fun KJ_1 hKJ_1 => wp_seq <| wp_region_lit <| s_move hm rfl rfl fun a hm => s_len hm rfl Try.underlying23 rfl hp0_0 fun a hm => s_cmp (b := decide ((x0.length : Int) < 4)) hm rfl rfl rfl (.inr (.inr (.inl ⟨rfl, rfl⟩))) fun a hm => wpList_nil ?_
 replace hm : Fr 37 a [(0, _), (2, _), (3, _), (7, .bool (decide ((x0.length : Int) < 4)))] := hm.keep [0, 2, 3, 7]
 refine x_then_n ?_
 by_cases hc_2 : (x0.length : Int) < 4
 ·rw [if_pos hc_2] at H
  refine c_cond_t hm rfl (decide_eq_true hc_2) <| wp_seq <| wp_region_lit <| s_assign hm rfl rfl fun a hm => s_assign hm rfl rfl fun a hm => wpList_nil ?_
  replace hm : Fr 37 a [(0, _), (2, _), (3, _)] := hm.keep [0, 2, 3]
  refine x_then_n <| wp_ret (x_then_r ?_)
  obtain rfl := Option.some.inj H
  exact f_ret hm (rs := [.tmp 2, .tmp 3]) rfl (.tmp rfl (.tmp rfl .nil)) ⟨_, rfl, .slice none 0 0, Mem.no, rfl, (Sep.sel hS [0] (by decide)), (Rd.nil _ _)⟩
 ·rw [if_neg hc_2] at H
  refine c_cond_f hm rfl (decide_eq_false hc_2) <| wp_skip <| x_then_n (hKJ_1 _ _ ?_)
  refine c_seq fun KJ_3 hKJ_3 => h_begin (S := fun w => Sep w0 w [Mem.no] Z) 23 (by kernel_rfl) rfl [false, false, false, false, false, false, false, false, false, false, false, false, false, false, false, false, false, false, false, false, false, false, false].toArray rfl hS fun w_4 hS => ?_
  replace hS : Sep w0 w_4 [_] Z := hS
  refine t_take 0 [true, false, false, false, false, false, false, false, false, false, false, false, false, false, false, false, false, false, false, false, false, false, false].toArray rfl rfl rfl rfl rfl hm (hS.sub .ii) (v := p0_0) (fun w hS => r_move hm rfl) fun a hm => ?_
  obtain ⟨t_5, et_5, H⟩ := Option.bind_eq_some_iff.1 H
  refine t_takeE 1 [true, true, false, false, false, false, false, false, false, false, false, false, false, false, false, false, false, false, false, false, false, false, false].toArray rfl rfl rfl rfl rfl hm (hS.sub .ii) (f := fun ad => .pointer (some ad)) (r_index hm Try.underlying23 ti5 rfl rfl rfl hp0_0 et_5) ?_
  rintro ad_6 ⟨cs_7, hk_8, hc_9⟩
  obtain rfl := (show cs_7 = [.int .u8 (t_5.toNat : Int)] from hk_8)
  intro a hm
  refine t_take 2 [true, true, true, false, false, false, false, false, false, false, false, false, false, false, false, false, false, false, false, false, false, false, false].toArray rfl rfl rfl rfl rfl hm (hS.sub .ii) (v := .int .u8 (t_5.toNat : Int)) (fun w hS => r_load hm rfl (el_one (o := 0) (fun j c h => Mem.cell_le (hA.trans hS.old) (hc_9 j c h)) Try.underlying5 rfl rfl)) fun a hm => t_take 3 [true, true, true, true, false, false, false, false, false, false, false, false, false, false, false, false, false, false, false, false, false, false, false].toArray rfl rfl rfl rfl rfl hm (hS.sub .ii) (v := .int .u32 ((toU32 (t_5.toNat : Int)).toNat : Int)) (fun w hS => r_conv (((toU32 (t_5.toNat : Int)).toNat : Int)) hm Try.underlying5 Try.underlying75 rfl (wrap_u32 _).symm) fun a hm => t_take 4 [true, true, true, true, true, false, false, false, false, false, false, false, false, false, false, false, false, false, false, false, false, false, false].toArray rfl rfl rfl rfl rfl hm (hS.sub .ii) (v := p0_0) (fun w hS => r_move hm rfl) fun a hm => ?_
  obtain ⟨t_10, et_10, H⟩ := Option.bind_eq_some_iff.1 H
  refine t_takeE 5 [true, true, true, true, true, true, false, false, false, false, false, false, false, false, false, false, false, false, false, false, false, false, false].toArray rfl rfl rfl rfl rfl hm (hS.sub .ii) (f := fun ad => .pointer (some ad)) (r_index hm Try.underlying23 ti5 rfl rfl rfl hp0_0 et_10) ?_
  rintro ad_11 ⟨cs_12, hk_13, hc_14⟩
  obtain rfl := (show cs_12 = [.int .u8 (t_10.toNat : Int)] from hk_13)
  intro a hm
  refine t_take 6 [true, true, true, true, true, true, true, false, false, false, false, false, false, false, false, false, false, false, false, false, false, false, false].toArray rfl rfl rfl rfl rfl hm (hS.sub .ii) (v := .int .u8 (t_10.toNat : Int)) (fun w hS => r_load hm rfl (el_one (o := 0) (fun j c h => Mem.cell_le (hA.trans hS.old) (hc_14 j c h)) Try.underlying5 rfl rfl)) fun a hm => t_take 7 [true, true, true, true, true, true, true, true, false, false, false, false, false, false, false, false, false, false, false, false, false, false, false].toArray rfl rfl rfl rfl rfl hm (hS.sub .ii) (v := .int .u32 ((toU32 (t_10.toNat : Int)).toNat : Int)) (fun w hS => r_conv (((toU32 (t_10.toNat : Int)).toNat : Int)) hm Try.underlying5 Try.underlying75 rfl (wrap_u32 _).symm) fun a hm => t_take 8 [true, true, true, true, true, true, true, true, true, false, false, false, false, false, false, false, false, false, false, false, false, false, false].toArray rfl rfl rfl rfl rfl hm (hS.sub .ii) (v := .int .u32 ((toU32 (((toU32 (t_10.toNat : Int)).toNat : Int) * 2 ^ (min (8 : Int).toNat 32))).toNat : Int)) (fun w hS => r_shift (r := ((toU32 (((toU32 (t_10.toNat : Int)).toNat : Int) * 2 ^ (min (8 : Int).toNat 32))).toNat : Int)) hm rfl rfl (by decide) (.inl ⟨rfl, (wrap_u32 _).symm⟩)) fun a hm => ?_
  refine t_take 9 [true, true, true, true, true, true, true, true, true, true, false, false, false, false, false, false, false, false, false, false, false, false, false].toArray rfl rfl rfl rfl rfl hm (hS.sub .ii) (v := .int .u32 (((toU32 (t_5.toNat : Int)) ||| (toU32 (((toU32 (t_10.toNat : Int)).toNat : Int) * 2 ^ (min (8 : Int).toNat 32)))).toNat : Int)) (fun w hS => r_bits (i := ((toU32 (t_5.toNat : Int)).toNat : Int)) (j := ((toU32 (((toU32 (t_10.toNat : Int)).toNat : Int) * 2 ^ (min (8 : Int).toNat 32))).toNat : Int)) (r := (((toU32 (t_5.toNat : Int)) ||| (toU32 (((toU32 (t_10.toNat : Int)).toNat : Int) * 2 ^ (min (8 : Int).toNat 32)))).toNat : Int)) hm rfl rfl (.inr (.inl ⟨rfl, (bor32 _ _).symm⟩))) fun a hm => t_take 10 [true, true, true, true, true, true, true, true, true, true, true, false, false, false, false, false, false, false, false, false, false, false, false].toArray rfl rfl rfl rfl rfl hm (hS.sub .ii) (v := p0_0) (fun w hS => r_move hm rfl) fun a hm => ?_
  obtain ⟨t_15, et_15, H⟩ := Option.bind_eq_some_iff.1 H
  refine t_takeE 11 [true, true, true, true, true, true, true, true, true, true, true, true, false, false, false, false, false, false, false, false, false, false, false].toArray rfl rfl rfl rfl rfl hm (hS.sub .ii) (f := fun ad => .pointer (some ad)) (r_index hm Try.underlying23 ti5 rfl rfl rfl hp0_0 et_15) ?_
  rintro ad_16 ⟨cs_17, hk_18, hc_19⟩
  obtain rfl := (show cs_17 = [.int .u8 (t_15.toNat : Int)] from hk_18)
  intro a hm
  refine t_take 12 [true, true, true, true, true, true, true, true, true, true, true, true, true, false, false, false, false, false, false, false, false, false, false].toArray rfl rfl rfl rfl rfl hm (hS.sub .ii) (v := .int .u8 (t_15.toNat : Int)) (fun w hS => r_load hm rfl (el_one (o := 0) (fun j c h => Mem.cell_le (hA.trans hS.old) (hc_19 j c h)) Try.underlying5 rfl rfl)) fun a hm => t_take 13 [true, true, true, true, true, true, true, true, true, true, true, true, true, true, false, false, false, false, false, false, false, false, false].toArray rfl rfl rfl rfl rfl hm (hS.sub .ii) (v := .int .u32 ((toU32 (t_15.toNat : Int)).toNat : Int)) (fun w hS => r_conv (((toU32 (t_15.toNat : Int)).toNat : Int)) hm Try.underlying5 Try.underlying75 rfl (wrap_u32 _).symm) fun a hm => t_take 14 [true, true, true, true, true, true, true, true, true, true, true, true, true, true, true, false, false, false, false, false, false, false, false].toArray rfl rfl rfl rfl rfl hm (hS.sub .ii) (v := .int .u32 ((toU32 (((toU32 (t_15.toNat : Int)).toNat : Int) * 2 ^ (min (16 : Int).toNat 32))).toNat : Int)) (fun w hS => r_shift (r := ((toU32 (((toU32 (t_15.toNat : Int)).toNat : Int) * 2 ^ (min (16 : Int).toNat 32))).toNat : Int)) hm rfl rfl (by decide) (.inl ⟨rfl, (wrap_u32 _).symm⟩)) fun a hm => ?_
  refine t_take 15 [true, true, true, true, true, true, true, true, true, true, true, true, true, true, true, true, false, false, false, false, false, false, false].toArray rfl rfl rfl rfl rfl hm (hS.sub .ii) (v := .int .u32 ((((toU32 (t_5.toNat : Int)) ||| (toU32 (((toU32 (t_10.toNat : Int)).toNat : Int) * 2 ^ (min (8 : Int).toNat 32)))) ||| (toU32 (((toU32 (t_15.toNat : Int)).toNat : Int) * 2 ^ (min (16 : Int).toNat 32)))).toNat : Int)) (fun w hS => r_bits (i := (((toU32 (t_5.toNat : Int)) ||| (toU32 (((toU32 (t_10.toNat : Int)).toNat : Int) * 2 ^ (min (8 : Int).toNat 32)))).toNat : Int)) (j := ((toU32 (((toU32 (t_15.toNat : Int)).toNat : Int) * 2 ^ (min (16 : Int).toNat 32))).toNat : Int)) (r := ((((toU32 (t_5.toNat : Int)) ||| (toU32 (((toU32 (t_10.toNat : Int)).toNat : Int) * 2 ^ (min (8 : Int).toNat 32)))) ||| (toU32 (((toU32 (t_15.toNat : Int)).toNat : Int) * 2 ^ (min (16 : Int).toNat 32)))).toNat : Int)) hm rfl rfl (.inr (.inl ⟨rfl, (bor32 _ _).symm⟩))) fun a hm => t_take 16 [true, true, true, true, true, true, true, true, true, true, true, true, true, true, true, true, true, false, false, false, false, false, false].toArray rfl rfl rfl rfl rfl hm (hS.sub .ii) (v := p0_0) (fun w hS => r_move hm rfl) fun a hm => ?_
  obtain ⟨t_20, et_20, H⟩ := Option.bind_eq_some_iff.1 H
  refine t_takeE 17 [true, true, true, true, true, true, true, true, true, true, true, true, true, true, true, true, true, true, false, false, false, false, false].toArray rfl rfl rfl rfl rfl hm (hS.sub .ii) (f := fun ad => .pointer (some ad)) (r_index hm Try.underlying23 ti5 rfl rfl rfl hp0_0 et_20) ?_
  rintro ad_21 ⟨cs_22, hk_23, hc_24⟩
  obtain rfl := (show cs_22 = [.int .u8 (t_20.toNat : Int)] from hk_23)
  intro a hm
  refine t_take 18 [true, true, true, true, true, true, true, true, true, true, true, true, true, true, true, true, true, true, true, false, false, false, false].toArray rfl rfl rfl rfl rfl hm (hS.sub .ii) (v := .int .u8 (t_20.toNat : Int)) (fun w hS => r_load hm rfl (el_one (o := 0) (fun j c h => Mem.cell_le (hA.trans hS.old) (hc_24 j c h)) Try.underlying5 rfl rfl)) fun a hm => t_take 19 [true, true, true, true, true, true, true, true, true, true, true, true, true, true, true, true, true, true, true, true, false, false, false].toArray rfl rfl rfl rfl rfl hm (hS.sub .ii) (v := .int .u32 ((toU32 (t_20.toNat : Int)).toNat : Int)) (fun w hS => r_conv (((toU32 (t_20.toNat : Int)).toNat : Int)) hm Try.underlying5 Try.underlying75 rfl (wrap_u32 _).symm) fun a hm => t_take 20 [true, true, true, true, true, true, true, true, true, true, true, true, true, true, true, true, true, true, true, true, true, false, false].toArray rfl rfl rfl rfl rfl hm (hS.sub .ii) (v := .int .u32 ((toU32 (((toU32 (t_20.toNat : Int)).toNat : Int) * 2 ^ (min (24 : Int).toNat 32))).toNat : Int)) (fun w hS => r_shift (r := ((toU32 (((toU32 (t_20.toNat : Int)).toNat : Int) * 2 ^ (min (24 : Int).toNat 32))).toNat : Int)) hm rfl rfl (by decide) (.inl ⟨rfl, (wrap_u32 _).symm⟩)) fun a hm => ?_
  refine t_take 21 [true, true, true, true, true, true, true, true, true, true, true, true, true, true, true, true, true, true, true, true, true, true, false].toArray rfl rfl rfl rfl rfl hm (hS.sub .ii) (v := .int .u32 (((((toU32 (t_5.toNat : Int)) ||| (toU32 (((toU32 (t_10.toNat : Int)).toNat : Int) * 2 ^ (min (8 : Int).toNat 32)))) ||| (toU32 (((toU32 (t_15.toNat : Int)).toNat : Int) * 2 ^ (min (16 : Int).toNat 32)))) ||| (toU32 (((toU32 (t_20.toNat : Int)).toNat : Int) * 2 ^ (min (24 : Int).toNat 32)))).toNat : Int)) (fun w hS => r_bits (i := ((((toU32 (t_5.toNat : Int)) ||| (toU32 (((toU32 (t_10.toNat : Int)).toNat : Int) * 2 ^ (min (8 : Int).toNat 32)))) ||| (toU32 (((toU32 (t_15.toNat : Int)).toNat : Int) * 2 ^ (min (16 : Int).toNat 32)))).toNat : Int)) (j := ((toU32 (((toU32 (t_20.toNat : Int)).toNat : Int) * 2 ^ (min (24 : Int).toNat 32))).toNat : Int)) (r := (((((toU32 (t_5.toNat : Int)) ||| (toU32 (((toU32 (t_10.toNat : Int)).toNat : Int) * 2 ^ (min (8 : Int).toNat 32)))) ||| (toU32 (((toU32 (t_15.toNat : Int)).toNat : Int) * 2 ^ (min (16 : Int).toNat 32)))) ||| (toU32 (((toU32 (t_20.toNat : Int)).toNat : Int) * 2 ^ (min (24 : Int).toNat 32)))).toNat : Int)) hm rfl rfl (.inr (.inl ⟨rfl, (bor32 _ _).symm⟩))) fun a hm => ?_
  refine t_take 22 [true, true, true, true, true, true, true, true, true, true, true, true, true, true, true, true, true, true, true, true, true, true, true].toArray rfl rfl rfl rfl rfl hm (hS.sub .ii) (v := .int .u32 (((((toU32 (t_5.toNat : Int)) ||| (toU32 (((toU32 (t_10.toNat : Int)).toNat : Int) * 2 ^ (min (8 : Int).toNat 32)))) ||| (toU32 (((toU32 (t_15.toNat : Int)).toNat : Int) * 2 ^ (min (16 : Int).toNat 32)))) ||| (toU32 (((toU32 (t_20.toNat : Int)).toNat : Int) * 2 ^ (min (24 : Int).toNat 32)))).toNat : Int)) (fun w hS => r_assign hm rfl) fun a hm => h_done (by kernel_rfl) ?_
  replace hm : Fr 37 a [(0, _), (2, _), (3, _), (4, .int .u32 (((((toU32 (t_5.toNat : Int)) ||| (toU32 (((toU32 (t_10.toNat : Int)).toNat : Int) * 2 ^ (min (8 : Int).toNat 32)))) ||| (toU32 (((toU32 (t_15.toNat : Int)).toNat : Int) * 2 ^ (min (16 : Int).toNat 32)))) ||| (toU32 (((toU32 (t_20.toNat : Int)).toNat : Int) * 2 ^ (min (24 : Int).toNat 32)))).toNat : Int))] := hm.keep [0, 2, 3, 4]
  refine x_then_n (hKJ_3 _ _ ?_)
  refine c_seq fun KJ_25 hKJ_25 => h_begin (S := fun w => Sep w0 w [Mem.no] Z) 9 (by kernel_rfl) rfl [false, false, false, false, false, false, false, false, false].toArray rfl hS fun w_26 hS => ?_
  replace hS : Sep w0 w_26 [_] Z := hS
  refine t_take 0 [true, false, false, false, false, false, false, false, false].toArray rfl rfl rfl rfl rfl hm (hS.sub .ii) (v := p0_0) (fun w hS => r_move hm rfl) fun a hm => ?_
  obtain ⟨t_27, et_27, H⟩ := Option.bind_eq_some_iff.1 H
  refine t_takeE 1 [true, true, false, false, false, false, false, false, false].toArray rfl rfl rfl rfl rfl hm (hS.sub .ii) (f := fun v => v) (r_slice hm Try.underlying23 ti5 rfl rfl hp0_0 rfl rfl et_27) fun v_28 hr_29 a hm => t_take 2 [true, true, true, false, false, false, false, false, false].toArray rfl rfl rfl rfl rfl hm (hS.sub .ii) (v := .int .u32 (((((toU32 (t_5.toNat : Int)) ||| (toU32 (((toU32 (t_10.toNat : Int)).toNat : Int) * 2 ^ (min (8 : Int).toNat 32)))) ||| (toU32 (((toU32 (t_15.toNat : Int)).toNat : Int) * 2 ^ (min (16 : Int).toNat 32)))) ||| (toU32 (((toU32 (t_20.toNat : Int)).toNat : Int) * 2 ^ (min (24 : Int).toNat 32)))).toNat : Int)) (fun w hS => r_move hm rfl) fun a hm => t_take 3 [true, true, true, true, false, false, false, false, false].toArray rfl rfl rfl rfl rfl hm (hS.sub .ii) (v := p0_0) (fun w hS => r_move hm rfl) fun a hm => ?_
  obtain ⟨t_30, et_30, H⟩ := Option.bind_eq_some_iff.1 H
  refine t_takeE 4 [true, true, true, true, true, false, false, false, false].toArray rfl rfl rfl rfl rfl hm (hS.sub .ii) (f := fun v => v) (r_slice hm Try.underlying23 ti5 rfl rfl hp0_0 rfl rfl et_30) fun v_31 hr_32 a hm => h_event 5 [true, true, true, true, true, true, false, false, false].toArray rfl (by kernel_rfl) rfl ?_
  obtain ⟨t_33, et_33, H⟩ := Option.bind_eq_some_iff.1 H
  refine s_call hm rfl Try.call61 rfl (crcs_Sum.calls K t_30 _ t_33 w0 _ _ _ (Mem.le.refl _) (hS.enter [] (by decide)) (hr_32.mono (hA.trans (hS.le_zed []))) et_33) ?_
  rintro _ w_34 ⟨N_35, rfl, hS'⟩
  intro a hm
  obtain ⟨N_36, hS'', le_36, ln_36⟩ := hS.call [] (by decide) rfl (l' := []) (ow := []) rfl hS'
  replace hS : Sep w0 w_34 [N_36] Z := hS''
  clear hS' hS''
  refine wpList_nil <| x_then_n ⟨(hS.sub (.cons le_36 .ii)), ?_⟩
  refine t_take 6 [true, true, true, true, true, true, true, false, false].toArray rfl rfl rfl rfl rfl hm (hS.sub (.cons le_36 .ii)) (v := .bool ((((((toU32 (t_5.toNat : Int)) ||| (toU32 (((toU32 (t_10.toNat : Int)).toNat : Int) * 2 ^ (min (8 : Int).toNat 32)))) ||| (toU32 (((toU32 (t_15.toNat : Int)).toNat : Int) * 2 ^ (min (16 : Int).toNat 32)))) ||| (toU32 (((toU32 (t_20.toNat : Int)).toNat : Int) * 2 ^ (min (24 : Int).toNat 32)))).toNat : Int) == (t_33.toNat : Int))) (fun w hS => r_cmp (b := ((((((toU32 (t_5.toNat : Int)) ||| (toU32 (((toU32 (t_10.toNat : Int)).toNat : Int) * 2 ^ (min (8 : Int).toNat 32)))) ||| (toU32 (((toU32 (t_15.toNat : Int)).toNat : Int) * 2 ^ (min (16 : Int).toNat 32)))) ||| (toU32 (((toU32 (t_20.toNat : Int)).toNat : Int) * 2 ^ (min (24 : Int).toNat 32)))).toNat : Int) == (t_33.toNat : Int))) hm rfl rfl (.inl ⟨rfl, rfl⟩)) fun a hm => t_take 7 [true, true, true, true, true, true, true, true, false].toArray rfl rfl rfl rfl rfl hm (hS.sub (.cons le_36 .ii)) (v := v_28) (fun w hS => r_assign hm rfl) fun a hm => t_take 8 [true, true, true, true, true, true, true, true, true].toArray rfl rfl rfl rfl rfl hm (hS.sub (.cons le_36 .ii)) (v := .bool ((((((toU32 (t_5.toNat : Int)) ||| (toU32 (((toU32 (t_10.toNat : Int)).toNat : Int) * 2 ^ (min (8 : Int).toNat 32)))) ||| (toU32 (((toU32 (t_15.toNat : Int)).toNat : Int) * 2 ^ (min (16 : Int).toNat 32)))) ||| (toU32 (((toU32 (t_20.toNat : Int)).toNat : Int) * 2 ^ (min (24 : Int).toNat 32)))).toNat : Int) == (t_33.toNat : Int))) (fun w hS => r_assign hm rfl) fun a hm => ?_
  refine h_done (by kernel_rfl) ?_
  replace hm : Fr 37 a [(2, v_28), (3, .bool ((((((toU32 (t_5.toNat : Int)) ||| (toU32 (((toU32 (t_10.toNat : Int)).toNat : Int) * 2 ^ (min (8 : Int).toNat 32)))) ||| (toU32 (((toU32 (t_15.toNat : Int)).toNat : Int) * 2 ^ (min (16 : Int).toNat 32)))) ||| (toU32 (((toU32 (t_20.toNat : Int)).toNat : Int) * 2 ^ (min (24 : Int).toNat 32)))).toNat : Int) == (t_33.toNat : Int)))] := hm.keep [2, 3]
  refine x_then_n (hKJ_25 _ _ ?_)
  refine wp_ret ?_
  obtain rfl := Option.some.inj H
  exact f_ret hm (rs := [.tmp 2, .tmp 3]) rfl (.tmp rfl (.tmp rfl .nil)) ⟨_, rfl, v_28, N_36, rfl, (Sep.sel hS [0] (by decide)), (hr_29.mono (Mem.le_un _ _))⟩

set_option maxHeartbeats 4000000 in
set_option maxRecDepth 20000 in
theorem fram_Open.calls (K : Nat) (x0 : List UInt8) (p0_0 : Value) (r : api_Msg × Bool) (w0 w : World) (Z A : Mem) (hA : A.le Z) (hS : Sep w0 w [] Z) (hp0_0 : Rd Kd.u8 A p0_0 x0)
    (H : fram_Open.f K x0 = some r) :
    Calls Try.prog 20 [p0_0].toArray w (Ret fun v w' => ∃ (u0 : Value) (u1 : Value) (u2 : Value) (u3 : Value) (u4 : Value) (u5 : Value) (N : Mem) (M0 : Mem) (M1 : Mem) (M2 : Mem) (M3 : Mem) (M4 : Mem) (M5 : Mem), v = .tuple [.agg [.int .i64 r.1.Kind, .int .i64 r.1.From, .int .i64 r.1.To, .int .i64 r.1.View, .int .i64 r.1.Inst, .int .i64 r.1.Len, .bool r.1.Has, .int .i64 r.1.Members, .int .i64 r.1.Source, .int .i64 r.1.At, .int .i64 r.1.Total, u0, .int .i64 r.1.Hop, .int .i64 r.1.Seq, u1, u2, .int .i64 r.1.Index, .int .i64 r.1.Entry.Sess, .int .i64 r.1.Entry.Seq, .int .i64 r.1.Entry.Cmd.Kind, .int .i64 r.1.Entry.Cmd.Who, u3, u4, u5].toArray, .bool r.2].toArray ∧ Sep w0 w' [N, M0, M1, M2, M3, M4, M5] Z ∧ Own Kd.u8 5 M0 Mem.no u0 r.1.Data ∧ Own (Kd.int .i64) 3 M1 Mem.no u1 r.1.Have ∧ Own (Kd.int .i64) 3 M2 Mem.no u2 r.1.Need ∧ Own Kd.u8 5 M3 Mem.no u3 r.1.Entry.Cmd.Key ∧ Own Kd.u8 5 M4 Mem.no u4 r.1.Entry.Cmd.Val ∧ Own Kd.u8 5 M5 Mem.no u5 r.1.Entry.Cmd.Old) := by
 unfold fram_Open.f at H
 refine f_enter _ Try.func20 rfl Try.ntmps20 rfl fun a hm => ?_
 replace hm : Fr 26 a [(0, p0_0)] := hm
 replace hS := hS.start
 replace hS : Sep w0 w [_] Z := hS
 refine wp_seq <| wp_region_lit <| v_alloc hm rfl ti29 hS fun w_1 g_2 hS' a hm => ?_
 replace hS : Sep w0 w_1 [_, Mem.one g_2 (.cells ([.int .i64 0, .int .i64 0, .int .i64 0, .int .i64 0, .int .i64 0, .int .i64 0, .bool false, .int .i64 0, .int .i64 0, .int .i64 0, .int .i64 0, .slice none 0 0, .int .i64 0, .int .i64 0, .slice none 0 0, .slice none 0 0, .int .i64 0, .int .i64 0, .int .i64 0, .int .i64 0, .int .i64 0, .slice none 0 0, .slice none 0 0, .slice none 0 0] : List Value).toArray 29 (0, 0))] Z := hS'
 clear hS'
 refine s_assign hm rfl rfl fun a hm => wpList_nil ?_
 replace hm : Fr 26 a [(0, _), (2, .pointer (some ⟨g_2, 0, none⟩)), (3, .bool false)] := hm.keep [0, 2, 3]
 refine x_then_n <| wp_seq <| wp_region_lit <| s_move hm rfl rfl fun a hm => ?_
 obtain ⟨t_3, et_3, H⟩ := Option.bind_eq_some_iff.1 H
 refine s_call hm rfl Try.call41 rfl (fram_Sound.calls K x0 _ t_3 w0 _ _ A (hA.trans (hS.le_zed [])) (hS.enter [] (by decide)) hp0_0 et_3) ?_
 rintro _ w_4 ⟨v_7, N_5, rfl, hS', hr_8⟩
 intro a hm
 obtain ⟨N_6, hS'', le_6, ln_6⟩ := hS.call [] (by decide) rfl (l' := []) (ow := []) rfl hS'
 replace hS : Sep w0 w_4 [N_6, _] Z := hS''
 clear hS' hS''
 have hr_9 : Rd Kd.u8 (A.un N_6) v_7 t_3.1 := hr_8.mono (Mem.un_left ln_6)
 refine s_move hm rfl rfl fun a hm => s_extract hm rfl rfl rfl fun a hm => s_extract hm rfl rfl rfl fun a hm => s_assign hm rfl rfl fun a hm => s_assign hm rfl rfl fun a hm => wpList_nil ?_
 replace hm : Fr 26 a [(2, _), (3, _), (4, v_7), (5, .bool t_3.2)] := hm.keep [2, 3, 4, 5]
 refine x_then_n <| wp_seq <| wp_region_lit <| s_move hm rfl rfl fun a hm => ?_
 obtain ⟨t_10, et_10, H⟩ := Option.bind_eq_some_iff.1 H
 refine s_call hm rfl Try.call12 rfl (mesg_Decode.calls K t_3.1 _ t_10 w0 _ _ _ (Mem.le.refl _) (hS.enter [] (by decide)) (hr_9.mono (Mem.un_le (hA.trans (hS.le_zed [])) ((Mem.le.refl _).trans (hS.new_zed [])))) et_10) ?_
 rintro _ w_11 ⟨v_14, v_18, v_22, v_26, v_30, v_34, N_12, M_16, M_20, M_24, M_28, M_32, M_36, rfl, hS', hr_15, hr_19, hr_23, hr_27, hr_31, hr_35⟩
 intro a hm
 obtain ⟨N_13, hS'', le_13, ln_13⟩ := hS.call [] (by decide) rfl (l' := []) (ow := [M_16, M_20, M_24, M_28, M_32, M_36]) rfl hS'
 replace hS : Sep w0 w_11 [N_13, _, M_16, M_20, M_24, M_28, M_32, M_36] Z := hS''
 clear hS' hS''
 refine s_move hm rfl rfl fun a hm => s_extract hm rfl rfl rfl fun a hm => s_extract hm rfl rfl rfl fun a hm => v_alloc hm rfl ti29 hS fun w_38 g_39 hS' a hm => ?_
 replace hS : Sep w0 w_38 [_, _, _, _, _, _, _, _, Mem.one g_39 (.cells ([.int .i64 0, .int .i64 0, .int .i64 0, .int .i64 0, .int .i64 0, .int .i64 0, .bool false, .int .i64 0, .int .i64 0, .int .i64 0, .int .i64 0, .slice none 0 0, .int .i64 0, .int .i64 0, .slice none 0 0, .slice none 0 0, .int .i64 0, .int .i64 0, .int .i64 0, .int .i64 0, .int .i64 0, .slice none 0 0, .slice none 0 0, .slice none 0 0] : List Value).toArray 29 (0, 0))] Z := hS'
 clear hS'
 obtain ⟨w_40, hs', hS'⟩ := hS.store (P := Try.prog) (p := 8) (o := 0) (t := 29) (v := .agg ([.int .i64 t_10.1.Kind, .int .i64 t_10.1.From, .int .i64 t_10.1.To, .int .i64 t_10.1.View, .int .i64 t_10.1.Inst, .int .i64 t_10.1.Len, .bool t_10.1.Has, .int .i64 t_10.1.Members, .int .i64 t_10.1.Source, .int .i64 t_10.1.At, .int .i64 t_10.1.Total, v_14, .int .i64 t_10.1.Hop, .int .i64 t_10.1.Seq, v_18, v_22, .int .i64 t_10.1.Index, .int .i64 t_10.1.Entry.Sess, .int .i64 t_10.1.Entry.Seq, .int .i64 t_10.1.Entry.Cmd.Kind, .int .i64 t_10.1.Entry.Cmd.Who, v_26, v_30, v_34] : List Value).toArray) (vs := [.int .i64 t_10.1.Kind, .int .i64 t_10.1.From, .int .i64 t_10.1.To, .int .i64 t_10.1.View, .int .i64 t_10.1.Inst, .int .i64 t_10.1.Len, .bool t_10.1.Has, .int .i64 t_10.1.Members, .int .i64 t_10.1.Source, .int .i64 t_10.1.At, .int .i64 t_10.1.Total, v_14, .int .i64 t_10.1.Hop, .int .i64 t_10.1.Seq, v_18, v_22, .int .i64 t_10.1.Index, .int .i64 t_10.1.Entry.Sess, .int .i64 t_10.1.Entry.Seq, .int .i64 t_10.1.Entry.Cmd.Kind, .int .i64 t_10.1.Entry.Cmd.Who, v_26, v_30, v_34]) rfl ti29 rfl rfl rfl (by intro u hu; simp only [List.mem_cons, List.not_mem_nil, or_false] at hu; rcases hu with rfl | rfl | rfl | rfl | rfl | rfl | rfl | rfl | rfl | rfl | rfl | rfl | rfl | rfl | rfl | rfl | rfl | rfl | rfl | rfl | rfl | rfl | rfl | rfl <;> first | rfl | exact hr_15.one | exact hr_19.one | exact hr_23.one | exact hr_27.one | exact hr_31.one | exact hr_35.one)
 refine s_store hm rfl rfl hs' ?_
 replace hS : Sep w0 w_40 [_, _, _, _, _, _, _, _, Mem.one g_39 (.cells ([.int .i64 t_10.1.Kind, .int .i64 t_10.1.From, .int .i64 t_10.1.To, .int .i64 t_10.1.View, .int .i64 t_10.1.Inst, .int .i64 t_10.1.Len, .bool t_10.1.Has, .int .i64 t_10.1.Members, .int .i64 t_10.1.Source, .int .i64 t_10.1.At, .int .i64 t_10.1.Total, v_14, .int .i64 t_10.1.Hop, .int .i64 t_10.1.Seq, v_18, v_22, .int .i64 t_10.1.Index, .int .i64 t_10.1.Entry.Sess, .int .i64 t_10.1.Entry.Seq, .int .i64 t_10.1.Entry.Cmd.Kind, .int .i64 t_10.1.Entry.Cmd.Who, v_26, v_30, v_34] : List Value).toArray 29 (0, 0))] Z := hS'
 clear hs' hS'
 refine s_assign hm rfl rfl fun a hm => wpList_nil ?_
 replace hm : Fr 26 a [(2, _), (3, _), (5, _), (6, .pointer (some ⟨g_39, 0, none⟩)), (7, .bool t_10.2)] := hm.keep [2, 3, 5, 6, 7]
 refine x_then_n <| c_seq fun KJ_41 hKJ_41 => c_seq fun KJ_42 hKJ_42 => ?_
 have hJ_j_46 : ∀ (x_44 : Bool), fram_Open.J1 K t_10 x_44 = some r → ∀ (a : Act) (w_45 : World), (∃ (N_43 : Mem), Fr 26 a [(2, .pointer (some ⟨g_2, 0, none⟩)), (3, .bool false), (6, .pointer (some ⟨g_39, 0, none⟩)), (23, .bool x_44)] ∧ Sep w0 w_45 [N_43, Mem.one g_2 (.cells ([.int .i64 0, .int .i64 0, .int .i64 0, .int .i64 0, .int .i64 0, .int .i64 0, .bool false, .int .i64 0, .int .i64 0, .int .i64 0, .int .i64 0, .slice none 0 0, .int .i64 0, .int .i64 0, .slice none 0 0, .slice none 0 0, .int .i64 0, .int .i64 0, .int .i64 0, .int .i64 0, .int .i64 0, .slice none 0 0, .slice none 0 0, .slice none 0 0] : List Value).toArray 29 (0, 0)), M_16, M_20, M_24, M_28, M_32, M_36, Mem.one g_39 (.cells ([.int .i64 t_10.1.Kind, .int .i64 t_10.1.From, .int .i64 t_10.1.To, .int .i64 t_10.1.View, .int .i64 t_10.1.Inst, .int .i64 t_10.1.Len, .bool t_10.1.Has, .int .i64 t_10.1.Members, .int .i64 t_10.1.Source, .int .i64 t_10.1.At, .int .i64 t_10.1.Total, v_14, .int .i64 t_10.1.Hop, .int .i64 t_10.1.Seq, v_18, v_22, .int .i64 t_10.1.Index, .int .i64 t_10.1.Entry.Sess, .int .i64 t_10.1.Entry.Seq, .int .i64 t_10.1.Entry.Cmd.Kind, .int .i64 t_10.1.Entry.Cmd.Who, v_26, v_30, v_34] : List Value).toArray 29 (0, 0))] Z ∧ N_13.le N_43) → KJ_42 a w_45 := by
  clear H hm hS a
  rintro x_44 H a w_45 ⟨N_43, hm, hS, le_43⟩
  unfold fram_Open.J1 at H
  refine hKJ_42 _ _ ?_
  by_cases hc_47 : x_44 = true
  ·rw [if_pos hc_47] at H
   refine c_cond_t hm rfl hc_47 <| wp_seq <| wp_region_lit <| s_build hm rfl ti29 pl29 rfl .nil (cs := [.int .i64 0, .int .i64 0, .int .i64 0, .int .i64 0, .int .i64 0, .int .i64 0, .bool false, .int .i64 0, .int .i64 0, .int .i64 0, .int .i64 0, .slice none 0 0, .int .i64 0, .int .i64 0, .slice none 0 0, .slice none 0 0, .int .i64 0, .int .i64 0, .int .i64 0, .int .i64 0, .int .i64 0, .slice none 0 0, .slice none 0 0, .slice none 0 0]) (by kernel_rfl) fun a hm => ?_
   obtain ⟨w_48, hs', hS'⟩ := hS.store (P := Try.prog) (p := 1) (o := 0) (t := 29) (v := .agg ([.int .i64 0, .int .i64 0, .int .i64 0, .int .i64 0, .int .i64 0, .int .i64 0, .bool false, .int .i64 0, .int .i64 0, .int .i64 0, .int .i64 0, .slice none 0 0, .int .i64 0, .int .i64 0, .slice none 0 0, .slice none 0 0, .int .i64 0, .int .i64 0, .int .i64 0, .int .i64 0, .int .i64 0, .slice none 0 0, .slice none 0 0, .slice none 0 0] : List Value).toArray) (vs := [.int .i64 0, .int .i64 0, .int .i64 0, .int .i64 0, .int .i64 0, .int .i64 0, .bool false, .int .i64 0, .int .i64 0, .int .i64 0, .int .i64 0, .slice none 0 0, .int .i64 0, .int .i64 0, .slice none 0 0, .slice none 0 0, .int .i64 0, .int .i64 0, .int .i64 0, .int .i64 0, .int .i64 0, .slice none 0 0, .slice none 0 0, .slice none 0 0]) rfl ti29 rfl rfl rfl (by intro u hu; simp only [List.mem_cons, List.not_mem_nil, or_false] at hu; rcases hu with rfl | rfl | rfl | rfl | rfl | rfl | rfl | rfl | rfl | rfl | rfl | rfl | rfl | rfl | rfl | rfl | rfl | rfl | rfl | rfl | rfl | rfl | rfl | rfl <;> rfl)
   refine s_store hm rfl rfl hs' ?_
   replace hS : Sep w0 w_48 [_, _, _, _, _, _, _, _, _] Z := hS'
   clear hs' hS'
   refine s_assign hm rfl rfl fun a hm => wpList_nil ?_
   replace hm : Fr 26 a [(2, _), (3, _), (6, _)] := hm.keep [2, 3, 6]
   refine x_then_n <| wp_ret (x_then_r ?_)
   have hS' := hS.room
   replace hS : Sep w0 w_48 [_, _, _, _, _, _, _, _, _, Mem.no] Z := hS'
   clear hS'
   replace hS : Sep w0 w_48 [_, _, _, _, _, _, _, _, _, _] Z := hS
   have hS' := hS.room
   replace hS : Sep w0 w_48 [_, _, _, _, _, _, _, _, _, _, Mem.no] Z := hS'
   clear hS'
   replace hS : Sep w0 w_48 [_, _, _, _, _, _, _, _, _, _, _] Z := hS
   have hS' := hS.room
   replace hS : Sep w0 w_48 [_, _, _, _, _, _, _, _, _, _, _, Mem.no] Z := hS'
   clear hS'
   replace hS : Sep w0 w_48 [_, _, _, _, _, _, _, _, _, _, _, _] Z := hS
   have hS' := hS.room
   replace hS : Sep w0 w_48 [_, _, _, _, _, _, _, _, _, _, _, _, Mem.no] Z := hS'
   clear hS'
   replace hS : Sep w0 w_48 [_, _, _, _, _, _, _, _, _, _, _, _, _] Z := hS
   have hS' := hS.room
   replace hS : Sep w0 w_48 [_, _, _, _, _, _, _, _, _, _, _, _, _, Mem.no] Z := hS'
   clear hS'
   replace hS : Sep w0 w_48 [_, _, _, _, _, _, _, _, _, _, _, _, _, _] Z := hS
   have hS' := hS.room
   replace hS : Sep w0 w_48 [_, _, _, _, _, _, _, _, _, _, _, _, _, _, Mem.no] Z := hS'
   clear hS'
   replace hS : Sep w0 w_48 [_, _, _, _, _, _, _, _, _, _, _, _, _, _, _] Z := hS
   obtain rfl := Option.some.inj H
   exact f_ret hm (rs := [.cell 2 29, .tmp 3]) rfl (.cell rfl (hS.load_agg (p := 1) (us := [.int .i64 0, .int .i64 0, .int .i64 0, .int .i64 0, .int .i64 0, .int .i64 0, .bool false, .int .i64 0, .int .i64 0, .int .i64 0, .int .i64 0, .slice none 0 0, .int .i64 0, .int .i64 0, .slice none 0 0, .slice none 0 0, .int .i64 0, .int .i64 0, .int .i64 0, .int .i64 0, .int .i64 0, .slice none 0 0, .slice none 0 0, .slice none 0 0]) rfl Try.underlying29 rfl ti29 rfl rfl) (.tmp rfl .nil)) ⟨_, rfl, .slice none 0 0, .slice none 0 0, .slice none 0 0, .slice none 0 0, .slice none 0 0, .slice none 0 0, N_43, Mem.no, Mem.no, Mem.no, Mem.no, Mem.no, Mem.no, rfl, (Sep.sel hS [0, 9, 10, 11, 12, 13, 14] (by decide)), (Own.nil Kd.u8 5 Mem.no), (Own.nil (Kd.int .i64) 3 Mem.no), (Own.nil (Kd.int .i64) 3 Mem.no), (Own.nil Kd.u8 5 Mem.no), (Own.nil Kd.u8 5 Mem.no), (Own.nil Kd.u8 5 Mem.no)⟩
  ·rw [if_neg hc_47] at H
   refine c_cond_f hm rfl (Bool.eq_false_iff.2 hc_47) <| wp_skip <| x_then_n (hKJ_41 _ _ ?_)
   refine wp_seq <| wp_region_lit <| s_load hm rfl rfl (hS.load_agg (p := 8) (us := [.int .i64 t_10.1.Kind, .int .i64 t_10.1.From, .int .i64 t_10.1.To, .int .i64 t_10.1.View, .int .i64 t_10.1.Inst, .int .i64 t_10.1.Len, .bool t_10.1.Has, .int .i64 t_10.1.Members, .int .i64 t_10.1.Source, .int .i64 t_10.1.At, .int .i64 t_10.1.Total, v_14, .int .i64 t_10.1.Hop, .int .i64 t_10.1.Seq, v_18, v_22, .int .i64 t_10.1.Index, .int .i64 t_10.1.Entry.Sess, .int .i64 t_10.1.Entry.Seq, .int .i64 t_10.1.Entry.Cmd.Kind, .int .i64 t_10.1.Entry.Cmd.Who, v_26, v_30, v_34]) rfl Try.underlying29 rfl ti29 rfl rfl) fun a hm => ?_
   obtain ⟨w_55, hs', hS'⟩ := hS.store (P := Try.prog) (p := 1) (o := 0) (t := 29) (v := .agg ([.int .i64 t_10.1.Kind, .int .i64 t_10.1.From, .int .i64 t_10.1.To, .int .i64 t_10.1.View, .int .i64 t_10.1.Inst, .int .i64 t_10.1.Len, .bool t_10.1.Has, .int .i64 t_10.1.Members, .int .i64 t_10.1.Source, .int .i64 t_10.1.At, .int .i64 t_10.1.Total, v_14, .int .i64 t_10.1.Hop, .int .i64 t_10.1.Seq, v_18, v_22, .int .i64 t_10.1.Index, .int .i64 t_10.1.Entry.Sess, .int .i64 t_10.1.Entry.Seq, .int .i64 t_10.1.Entry.Cmd.Kind, .int .i64 t_10.1.Entry.Cmd.Who, v_26, v_30, v_34] : List Value).toArray) (vs := [.int .i64 t_10.1.Kind, .int .i64 t_10.1.From, .int .i64 t_10.1.To, .int .i64 t_10.1.View, .int .i64 t_10.1.Inst, .int .i64 t_10.1.Len, .bool t_10.1.Has, .int .i64 t_10.1.Members, .int .i64 t_10.1.Source, .int .i64 t_10.1.At, .int .i64 t_10.1.Total, v_14, .int .i64 t_10.1.Hop, .int .i64 t_10.1.Seq, v_18, v_22, .int .i64 t_10.1.Index, .int .i64 t_10.1.Entry.Sess, .int .i64 t_10.1.Entry.Seq, .int .i64 t_10.1.Entry.Cmd.Kind, .int .i64 t_10.1.Entry.Cmd.Who, v_26, v_30, v_34]) rfl ti29 rfl rfl rfl (by intro u hu; simp only [List.mem_cons, List.not_mem_nil, or_false] at hu; rcases hu with rfl | rfl | rfl | rfl | rfl | rfl | rfl | rfl | rfl | rfl | rfl | rfl | rfl | rfl | rfl | rfl | rfl | rfl | rfl | rfl | rfl | rfl | rfl | rfl <;> first | rfl | exact hr_15.one | exact hr_19.one | exact hr_23.one | exact hr_27.one | exact hr_31.one | exact hr_35.one)
   refine s_store hm rfl rfl hs' ?_
   replace hS : Sep w0 w_55 [_, Mem.one g_2 (.cells ([.int .i64 t_10.1.Kind, .int .i64 t_10.1.From, .int .i64 t_10.1.To, .int .i64 t_10.1.View, .int .i64 t_10.1.Inst, .int .i64 t_10.1.Len, .bool t_10.1.Has, .int .i64 t_10.1.Members, .int .i64 t_10.1.Source, .int .i64 t_10.1.At, .int .i64 t_10.1.Total, v_14, .int .i64 t_10.1.Hop, .int .i64 t_10.1.Seq, v_18, v_22, .int .i64 t_10.1.Index, .int .i64 t_10.1.Entry.Sess, .int .i64 t_10.1.Entry.Seq, .int .i64 t_10.1.Entry.Cmd.Kind, .int .i64 t_10.1.Entry.Cmd.Who, v_26, v_30, v_34] : List Value).toArray 29 (0, 0)), _, _, _, _, _, _, _] Z := hS'
   clear hs' hS'
   refine s_assign hm rfl rfl fun a hm => wpList_nil ?_
   replace hm : Fr 26 a [(2, _), (3, .bool true)] := hm.keep [2, 3]
   refine x_then_n <| wp_ret ?_
   obtain rfl := Option.some.inj H
   exact f_ret hm (rs := [.cell 2 29, .tmp 3]) rfl (.cell rfl (hS.load_agg (p := 1) (us := [.int .i64 t_10.1.Kind, .int .i64 t_10.1.From, .int .i64 t_10.1.To, .int .i64 t_10.1.View, .int .i64 t_10.1.Inst, .int .i64 t_10.1.Len, .bool t_10.1.Has, .int .i64 t_10.1.Members, .int .i64 t_10.1.Source, .int .i64 t_10.1.At, .int .i64 t_10.1.Total, v_14, .int .i64 t_10.1.Hop, .int .i64 t_10.1.Seq, v_18, v_22, .int .i64 t_10.1.Index, .int .i64 t_10.1.Entry.Sess, .int .i64 t_10.1.Entry.Seq, .int .i64 t_10.1.Entry.Cmd.Kind, .int .i64 t_10.1.Entry.Cmd.Who, v_26, v_30, v_34]) rfl Try.underlying29 rfl ti29 rfl rfl) (.tmp rfl .nil)) ⟨_, rfl, v_14, v_18, v_22, v_26, v_30, v_34, N_43, M_16, M_20, M_24, M_28, M_32, M_36, rfl, (Sep.sel hS [0, 2, 3, 4, 5, 6, 7] (by decide)), hr_15, hr_19, hr_23, hr_27, hr_31, hr_35⟩
 clear hKJ_42
 refine wp_region_lit <| s_move hm rfl rfl fun a hm => s_not hm rfl rfl fun a hm => s_move hm rfl rfl fun a hm => ?_
 by_cases hc_56 : t_3.2 = true
 ·rw [if_pos hc_56] at H
  refine s_on hm rfl rfl (nf hc_56) <| s_move hm rfl rfl fun a hm => s_on hm rfl rfl (nf hc_56) <| s_not hm rfl rfl fun a hm => s_pick_f hm rfl rfl (nf hc_56) rfl fun a hm => wpList_nil ?_
  replace hm : Fr 26 a [(2, _), (3, _), (6, _), (23, .bool (!t_10.2))] := hm.keep [2, 3, 6, 23]
  replace hS : Sep w0 w_40 [_, _, _, _, _, _, _, _, _] Z := hS
  replace hm : Fr 26 a [(2, _), (3, _), (6, _), (23, _)] := hm.keep [2, 3, 6, 23]
  exact x_then_n (hJ_j_46 (!t_10.2) H _ _ ⟨N_13, hm, (Sep.sel hS [0, 1, 2, 3, 4, 5, 6, 7, 8] (by decide)), (Mem.le.refl _)⟩)
 ·rw [if_neg hc_56] at H
  refine s_off hm rfl rfl rfl (nt (Bool.eq_false_iff.2 hc_56)) fun a hm => s_off hm rfl rfl rfl (nt (Bool.eq_false_iff.2 hc_56)) fun a hm => s_pick_t hm rfl rfl (nt (Bool.eq_false_iff.2 hc_56)) rfl fun a hm => wpList_nil ?_
  replace hm : Fr 26 a [(2, _), (3, _), (6, _), (23, .bool true)] := hm.keep [2, 3, 6, 23]
  replace hS : Sep w0 w_40 [_, _, _, _, _, _, _, _, _] Z := hS
  replace hm : Fr 26 a [(2, _), (3, _), (6, _), (23, _)] := hm.keep [2, 3, 6, 23]
  exact x_then_n (hJ_j_46 true H _ _ ⟨N_13, hm, (Sep.sel hS [0, 1, 2, 3, 4, 5, 6, 7, 8] (by decide)), (Mem.le.refl _)⟩)

set_option maxHeartbeats 4000000 in
set_option maxRecDepth 20000 in
theorem mesg_write_1.calls (K : Nat) (x0 : List Int) (p0_0 : Value) (g1 : Nat) (x1_ : List UInt8) (p1_1 : Value) (M1_1 : Mem) (r : (List UInt8)) (w0 w : World) (Z A : Mem) (hA : A.le Z) (hS : Sep w0 w [Mem.one g1 (.cells ([p1_1] : List Value).toArray 23 (0, 0)), M1_1] Z) (hp0_0 : Rd (Kd.int .i64) A p0_0 x0) (hp1_1 : Own Kd.u8 5 M1_1 Mem.no p1_1 x1_)
    (H : mesg_write_1.f K x0 x1_ = some r) :
    Calls Try.prog 44 [p0_0, .pointer (some ⟨g1, 0, none⟩)].toArray w (Ret fun v w' => ∃ (u0 : Value) (N : Mem) (M100 : Mem), v = .tuple [].toArray ∧ Sep w0 w' [N, Mem.one g1 (.cells ([u0] : List Value).toArray 23 (0, 0)), M100] Z ∧ Own Kd.u8 5 M100 Mem.no u0 r) := by
 unfold mesg_write_1.f at H
 refine f_enter _ Try.func44 rfl Try.ntmps44 rfl fun a hm => ?_
 replace hm : Fr 15 a [(0, p0_0), (1, .pointer (some ⟨g1, 0, none⟩))] := hm
 replace hS := hS.start
 replace hS : Sep w0 w [_, _, _] Z := hS
 refine wp_seq <| wp_region_lit <| s_move hm rfl rfl fun a hm => s_len hm rfl Try.underlying22 rfl hp0_0 fun a hm => s_move hm rfl rfl fun a hm => wpList_nil ?_
 replace hm : Fr 15 a [(1, _), (5, p0_0), (6, .int .i64 (x0.length : Int)), (7, .int .i64 0)] := hm.keep [1, 5, 6, 7]
 refine x_then_n <| c_last fun KJ_1 hKJ_1 => ?_
 have hJ_j_9 : ∀ (x_3 : List UInt8), mesg_write_1.J1 K x_3 = some r → ∀ (a : Act) (w_8 : World), (∃ (v_6 : Value) (N_2 : Mem) (M_4 : Mem), Fr 15 a [] ∧ Sep w0 w_8 [N_2, Mem.one g1 (.cells ([v_6] : List Value).toArray 23 (0, 0)), Mem.no, M_4] Z ∧ Mem.no.le N_2 ∧ Own Kd.u8 5 M_4 Mem.no v_6 x_3) → KJ_1 a w_8 := by
  clear H hm hS a
  rintro x_3 H a w_8 ⟨v_6, N_2, M_4, hm, hS, le_2, ho_7⟩
  unfold mesg_write_1.J1 at H
  refine hKJ_1 _ _ <| f_end ?_
  obtain rfl := Option.some.inj H
  exact f_ret hm (rs := []) rfl .nil ⟨_, rfl, v_6, N_2, M_4, rfl, (Sep.sel hS [0, 1, 3] (by decide)), ho_7⟩
 clear hKJ_1
 replace hS : Sep w0 w [_, _, _] Z := hS
 replace hm : Fr 15 a [(1, _), (5, _), (6, _), (7, _)] := hm.keep [1, 5, 6, 7]
 refine c_block <| c_loop (fun k_17 a w_17 => ∃ (x_11 : Int) (x_12 : List UInt8) (v_15 : Value) (N_10 : Mem) (M_13 : Mem), mesg_write_1.L1 K x0 (fun v => mesg_write_1.J1 K v) k_17 (x_11, x_12) = some r ∧ Fr 15 a [(1, .pointer (some ⟨g1, 0, none⟩)), (5, p0_0), (6, .int .i64 (x0.length : Int)), (7, .int .i64 x_11)] ∧ Sep w0 w_17 [N_10, Mem.one g1 (.cells ([v_15] : List Value).toArray 23 (0, 0)), Mem.no, M_13] Z ∧ Mem.no.le N_10 ∧ Own Kd.u8 5 M_13 Mem.no v_15 x_12) K ⟨0, x1_, p1_1, Mem.no, M1_1, H, hm, (Sep.sel hS [0, 1, 1001, 2] (by decide)), (Mem.le.refl _), hp1_1⟩ (fun a w h => by obtain ⟨_, _, _, _, _, H, _⟩ := h; cases (show (none : Option ((List UInt8))) = some r from H)) ?_
 clear hm hS a H
 rintro k_17 a w_17 KL_17 hKL_17 ⟨x_11, x_12, v_15, N_10, M_13, H, hm, hS, le_10, ho_16⟩
 replace H : mesg_write_1.B1 K x0 (fun v => mesg_write_1.J1 K v) (mesg_write_1.L1 K x0 (fun v => mesg_write_1.J1 K v) k_17) x_11 x_12 = some r := H
 unfold mesg_write_1.B1 at H
 refine wp_seq <| wp_region_lit <| s_cmp (b := decide (x_11 < (x0.length : Int))) hm rfl rfl rfl (.inr (.inr (.inl ⟨rfl, rfl⟩))) fun a hm => wpList_nil ?_
 replace hm : Fr 15 a [(1, _), (5, _), (6, _), (7, _), (8, .bool (decide (x_11 < (x0.length : Int))))] := hm.keep [1, 5, 6, 7, 8]
 refine x_then_n <| c_seq fun KJ_19 hKJ_19 => ?_
 by_cases hc_20 : x_11 < (x0.length : Int)
 ·rw [if_pos hc_20] at H
  refine c_cond_t hm rfl (decide_eq_true hc_20) <| wp_skip <| x_then_n (hKJ_19 _ _ ?_)
  refine wp_seq <| c_block <| wp_seq <| wp_region_lit ?_
  obtain ⟨t_21, et_21, H⟩ := Option.bind_eq_some_iff.1 H
  refine v_index hm rfl Try.underlying22 ti3 rfl rfl rfl hp0_0 (hA.trans hS.old) et_21 fun ad_22 cs_23 hk_24 hc_25 => ?_
  obtain rfl := (show cs_23 = [.int .i64 t_21] from hk_24)
  intro a hm
  refine s_load hm rfl rfl (el_one (o := 0) hc_25 Try.underlying3 rfl rfl) fun a hm => s_assign hm rfl rfl fun a hm => wpList_nil ?_
  replace hm : Fr 15 a [(1, _), (4, .int .i64 t_21), (5, _), (6, _), (7, _)] := hm.keep [1, 4, 5, 6, 7]
  refine x_then_n <| wp_region_lit <| s_load hm rfl rfl (hS.load_one (p := 1) rfl Try.underlying23 rfl rfl) fun a hm => s_move hm rfl rfl fun a hm => ?_
  obtain ⟨t_26, et_26, H⟩ := Option.bind_eq_some_iff.1 H
  refine s_call hm rfl Try.call45 rfl (pack_Num.calls K x_12 _ t_21 t_26 w0 _ _ _ (Mem.le.refl _) (hS.enter [] (by decide)) (ho_16.rd (hS.own_zed [] 2 (by decide)) (Mem.no_le _)) et_26) ?_
  rintro v_30 w_27 ⟨_, N_28, M_32, rfl, hS', hr_31⟩
  intro a hm
  obtain ⟨N_29, hS'', le_29, ln_29⟩ := hS.call [] (by decide) rfl (l' := []) (ow := [M_32]) rfl hS'
  replace hS : Sep w0 w_27 [N_29, _, _, _, M_32] Z := hS''
  clear hS' hS''
  obtain ⟨w_34, hs', hS'⟩ := hS.store (P := Try.prog) (p := 1) (o := 0) (t := 23) (v := v_30) (vs := [v_30]) rfl ti23 hr_31.cellsA rfl rfl (by intro u hu; simp only [List.mem_cons, List.not_mem_nil, or_false] at hu; rcases hu with rfl <;> first | rfl | exact hr_31.one)
  refine s_store hm rfl rfl hs' ?_
  replace hS : Sep w0 w_34 [_, Mem.one g1 (.cells ([v_30] : List Value).toArray 23 (0, 0)), _, _, _] Z := hS'
  clear hs' hS'
  refine wpList_nil ?_
  replace hm : Fr 15 a [(1, _), (5, _), (6, _), (7, _)] := hm.keep [1, 5, 6, 7]
  refine x_block_n <| x_then_n <| wp_region_lit <| s_arith (r := w64 (x_11 + 1)) hm rfl rfl rfl (.inl ⟨rfl, rfl⟩) fun a hm => s_move hm rfl rfl fun a hm => wpList_nil ?_
  replace hm : Fr 15 a [(1, _), (5, _), (6, _), (7, .int .i64 (w64 (x_11 + 1)))] := hm.keep [1, 5, 6, 7]
  refine x_then_n (hKL_17 _ _ ?_)
  replace hS : Sep w0 w_34 [_, _, _, _, _] Z := hS
  replace hm : Fr 15 a [(1, _), (5, _), (6, _), (7, _)] := hm.keep [1, 5, 6, 7]
  exact ⟨w64 (x_11 + 1), t_26, v_30, N_29, M_32, H, hm, (Sep.sel hS [0, 1, 1001, 4] (by decide)), (le_10.trans le_29), hr_31⟩
 ·rw [if_neg hc_20] at H
  refine c_cond_f hm rfl (decide_eq_false hc_20) <| wp_exit (x_then_x (x_then_x (x_block_t ?_)))
  replace hS : Sep w0 w_17 [_, _, _, _] Z := hS
  replace hm : Fr 15 a [] := hm.keep []
  exact x_then_n (hJ_j_9 x_12 H _ _ ⟨v_15, N_10, M_13, hm, (Sep.sel hS [0, 1, 1001, 3] (by decide)), le_10, ho_16⟩)

set_option maxHeartbeats 4000000 in
set_option maxRecDepth 20000 in
theorem mesg_write.calls (K : Nat) (x0 : api_Msg) (p0_0 : Value) (p0_1 : Value) (p0_2 : Value) (p0_3 : Value) (p0_4 : Value) (p0_5 : Value) (r : (List UInt8)) (w0 w : World) (Z A : Mem) (hA : A.le Z) (hS : Sep w0 w [] Z) (hp0_0 : Rd Kd.u8 A p0_0 x0.Data) (hp0_1 : Rd (Kd.int .i64) A p0_1 x0.Have) (hp0_2 : Rd (Kd.int .i64) A p0_2 x0.Need) (hp0_3 : Rd Kd.u8 A p0_3 x0.Entry.Cmd.Key) (hp0_4 : Rd Kd.u8 A p0_4 x0.Entry.Cmd.Val) (hp0_5 : Rd Kd.u8 A p0_5 x0.Entry.Cmd.Old)
    (H : mesg_write.f K x0 = some r) :
    Calls Try.prog 25 [.agg ([.int .i64 x0.Kind, .int .i64 x0.From, .int .i64 x0.To, .int .i64 x0.View, .int .i64 x0.Inst, .int .i64 x0.Len, .bool x0.Has, .int .i64 x0.Members, .int .i64 x0.Source, .int .i64 x0.At, .int .i64 x0.Total, p0_0, .int .i64 x0.Hop, .int .i64 x0.Seq, p0_1, p0_2, .int .i64 x0.Index, .int .i64 x0.Entry.Sess, .int .i64 x0.Entry.Seq, .int .i64 x0.Entry.Cmd.Kind, .int .i64 x0.Entry.Cmd.Who, p0_3, p0_4, p0_5] : List Value).toArray].toArray w (Ret fun v w' => ∃ (u0 : Value) (N : Mem), v = u0 ∧ Sep w0 w' [N] Z ∧ Rd Kd.u8 (A.un N) u0 r) := by
 unfold mesg_write.f at H
 refine f_enter _ Try.func25 rfl Try.ntmps25 rfl fun a hm => ?_
 replace hm : Fr 90 a [(0, .agg ([.int .i64 x0.Kind, .int .i64 x0.From, .int .i64 x0.To, .int .i64 x0.View, .int .i64 x0.Inst, .int .i64 x0.Len, .bool x0.Has, .int .i64 x0.Members, .int .i64 x0.Source, .int .i64 x0.At, .int .i64 x0.Total, p0_0, .int .i64 x0.Hop, .int .i64 x0.Seq, p0_1, p0_2, .int .i64 x0.Index, .int .i64 x0.Entry.Sess, .int .i64 x0.Entry.Seq, .int .i64 x0.Entry.Cmd.Kind, .int .i64 x0.Entry.Cmd.Who, p0_3, p0_4, p0_5] : List Value).toArray)] := hm
 replace hS := hS.start
 replace hS : Sep w0 w [_] Z := hS
 refine wp_seq <| wp_region_lit <| v_box (vs := [.int .i64 x0.Kind, .int .i64 x0.From, .int .i64 x0.To, .int .i64 x0.View, .int .i64 x0.Inst, .int .i64 x0.Len, .bool x0.Has, .int .i64 x0.Members, .int .i64 x0.Source, .int .i64 x0.At, .int .i64 x0.Total, p0_0, .int .i64 x0.Hop, .int .i64 x0.Seq, p0_1, p0_2, .int .i64 x0.Index, .int .i64 x0.Entry.Sess, .int .i64 x0.Entry.Seq, .int .i64 x0.Entry.Cmd.Kind, .int .i64 x0.Entry.Cmd.Who, p0_3, p0_4, p0_5]) hm rfl rfl rfl hS fun w_1 g_2 hS' a hm => ?_
 replace hS : Sep w0 w_1 [_, Mem.one g_2 (.cells ([.int .i64 x0.Kind, .int .i64 x0.From, .int .i64 x0.To, .int .i64 x0.View, .int .i64 x0.Inst, .int .i64 x0.Len, .bool x0.Has, .int .i64 x0.Members, .int .i64 x0.Source, .int .i64 x0.At, .int .i64 x0.Total, p0_0, .int .i64 x0.Hop, .int .i64 x0.Seq, p0_1, p0_2, .int .i64 x0.Index, .int .i64 x0.Entry.Sess, .int .i64 x0.Entry.Seq, .int .i64 x0.Entry.Cmd.Kind, .int .i64 x0.Entry.Cmd.Who, p0_3, p0_4, p0_5] : List Value).toArray 29 (0, 0))] Z := hS'
 clear hS'
 refine s_assign hm rfl rfl fun a hm => wpList_nil ?_
 replace hm : Fr 90 a [(1, .pointer (some ⟨g_2, 0, none⟩)), (2, .slice none 0 0)] := hm.keep [1, 2]
 refine x_then_n <| wp_seq <| wp_region_lit <| v_alloc hm rfl ti23 hS fun w_3 g_4 hS' a hm => ?_
 replace hS : Sep w0 w_3 [_, _, Mem.one g_4 (.cells ([.slice none 0 0] : List Value).toArray 23 (0, 0))] Z := hS'
 clear hS'
 refine wpList_nil ?_
 replace hm : Fr 90 a [(1, _), (2, _), (3, .pointer (some ⟨g_4, 0, none⟩))] := hm.keep [1, 2, 3]
 refine x_then_n <| wp_seq <| wp_region_lit <| s_func hm rfl rfl fun a hm => s_assign hm rfl rfl fun a hm => wpList_nil ?_
 replace hm : Fr 90 a [(1, _), (2, _), (3, _), (4, .func (.func 44) #[] [.pointer (some ⟨g_4, 0, none⟩)].toArray)] := hm.keep [1, 2, 3, 4]
 refine x_then_n <| wp_seq <| wp_region_lit <| s_move hm rfl rfl fun a hm => s_fieldAddr hm rfl Try.underlying29 rfl ti3 rfl rfl fun a hm => s_load hm rfl rfl (hS.load_one (p := 1) rfl Try.underlying3 rfl rfl) fun a hm => s_fieldAddr hm rfl Try.underlying29 rfl ti3 rfl rfl fun a hm => s_load hm rfl rfl (hS.load_one (p := 1) rfl Try.underlying3 rfl rfl) fun a hm => s_fieldAddr hm rfl Try.underlying29 rfl ti3 rfl rfl fun a hm => s_load hm rfl rfl (hS.load_one (p := 1) rfl Try.underlying3 rfl rfl) fun a hm => s_fieldAddr hm rfl Try.underlying29 rfl ti3 rfl rfl fun a hm => s_load hm rfl rfl (hS.load_one (p := 1) rfl Try.underlying3 rfl rfl) fun a hm => ?_
 have hq_9 : Reps (Kd.int .i64) Mem.no ([x0.Kind, x0.From, x0.To, x0.View] : List Int) _ := ((Reps.one (d := (Kd.int .i64)) (x := x0.Kind) (show (Kd.int .i64).K _ _ [.int .i64 x0.Kind] from rfl)).append ((Reps.one (d := (Kd.int .i64)) (x := x0.From) (show (Kd.int .i64).K _ _ [.int .i64 x0.From] from rfl)).append ((Reps.one (d := (Kd.int .i64)) (x := x0.To) (show (Kd.int .i64).K _ _ [.int .i64 x0.To] from rfl)).append ((Reps.one (d := (Kd.int .i64)) (x := x0.View) (show (Kd.int .i64).K _ _ [.int .i64 x0.View] from rfl)).append (Reps.nil (Kd.int .i64) _)))))
 refine s_buildSlice hm rfl Try.underlying22 ti3 rfl rfl rfl (.cons rfl (.cons rfl (.cons rfl (.cons rfl .nil)))) rfl rfl rfl hS hq_9 rfl fun w_5 v_6 M_7 hS' ho_8 a hm => ?_
 replace hS : Sep w0 w_5 [_, _, _, M_7] Z := hS'
 clear hS' hq_9
 have hS' := hS.room
 replace hS : Sep w0 w_5 [_, _, _, _, Mem.no] Z := hS'
 clear hS'
 replace hS : Sep w0 w_5 [_, _, _, _, _] Z := hS
 obtain ⟨t_12, et_12, H⟩ := Option.bind_eq_some_iff.1 H
 refine s_callv hm rfl rfl Try.call44 rfl (mesg_write_1.calls K ([x0.Kind, x0.From, x0.To, x0.View] : List Int) _ _ ([] : List UInt8) _ _ t_12 w0 _ _ _ (Mem.le.refl _) (hS.enter [1, 3] (by decide)) (ho_8.rd (hS.own_zed [1, 3] 2 (by decide)) (Mem.no_le _)) (Own.nil Kd.u8 5 Mem.no) et_12) ?_
 rintro _ w_13 ⟨v_16, N_14, M_18, rfl, hS', hr_17⟩
 intro a hm
 obtain ⟨N_15, hS'', le_15, ln_15⟩ := hS.call [1, 3] (by decide) rfl (l' := [Mem.one g_4 (.cells ([v_16] : List Value).toArray 23 (0, 0)), M_18]) (ow := []) rfl hS'
 replace hS : Sep w0 w_13 [N_15, _, Mem.one g_4 (.cells ([v_16] : List Value).toArray 23 (0, 0)), _, M_18] Z := hS''
 clear hS' hS''
 refine wpList_nil ?_
 replace hm : Fr 90 a [(1, _), (2, _), (3, _), (4, _)] := hm.keep [1, 2, 3, 4]
 refine x_then_n <| c_seq fun KJ_20 hKJ_20 => wp_seq <| wp_region_lit <| s_fieldAddr hm rfl Try.underlying29 rfl ti3 rfl rfl fun a hm => s_load hm rfl rfl (hS.load_one (p := 1) rfl Try.underlying3 rfl rfl) fun a hm => wpList_nil ?_
 replace hm : Fr 90 a [(1, _), (2, _), (3, _), (4, _), (18, .int .i64 x0.Kind)] := hm.keep [1, 2, 3, 4, 18]
 refine x_then_n <| c_block <| wp_seq <| wp_region_lit <| s_cmp (b := (x0.Kind == 2)) hm rfl rfl rfl (.inl ⟨rfl, rfl⟩) fun a hm => s_assign hm rfl rfl fun a hm => wpList_nil ?_
 replace hm : Fr 90 a [(1, _), (2, _), (3, _), (4, _), (18, _), (19, .bool (x0.Kind == 2))] := hm.keep [1, 2, 3, 4, 18, 19]
 refine x_then_n ?_
 by_cases hc_21 : x0.Kind = 2
 ·rw [if_pos hc_21] at H
  refine c_cond_t hm rfl (beq_iff_eq.2 hc_21) <| h_begin (S := fun w => Sep w0 w [N_15, Mem.one g_2 (.cells ([.int .i64 x0.Kind, .int .i64 x0.From, .int .i64 x0.To, .int .i64 x0.View, .int .i64 x0.Inst, .int .i64 x0.Len, .bool x0.Has, .int .i64 x0.Members, .int .i64 x0.Source, .int .i64 x0.At, .int .i64 x0.Total, p0_0, .int .i64 x0.Hop, .int .i64 x0.Seq, p0_1, p0_2, .int .i64 x0.Index, .int .i64 x0.Entry.Sess, .int .i64 x0.Entry.Seq, .int .i64 x0.Entry.Cmd.Kind, .int .i64 x0.Entry.Cmd.Who, p0_3, p0_4, p0_5] : List Value).toArray 29 (0, 0)), Mem.no, M_7, Mem.no] Z) 10 (by kernel_rfl) rfl [false, false, false, false, false, false, false, false, false, false].toArray rfl hS fun w_22 hS => ?_
  replace hS : Sep w0 w_22 [_, _, _, _, _] Z := hS
  refine t_take 0 [true, false, false, false, false, false, false, false, false, false].toArray rfl rfl rfl rfl rfl hm (hS.sub (.cons (Mem.le.refl _) (.rr (.zz (.rr (.zz .ii)))))) (v := .func (.func 44) #[] [.pointer (some ⟨g_4, 0, none⟩)].toArray) (fun w hS => r_move hm rfl) fun a hm => t_take 1 [true, true, false, false, false, false, false, false, false, false].toArray rfl rfl rfl rfl rfl hm (hS.sub (.cons (Mem.le.refl _) (.rr (.zz (.rr (.zz .ii)))))) (v := .pointer (some ⟨g_2, 4, none⟩)) (fun w hS => r_fieldAddr hm Try.underlying29 rfl ti3 rfl rfl rfl) fun a hm => t_take 2 [true, true, true, false, false, false, false, false, false, false].toArray rfl rfl rfl rfl rfl hm (hS.sub (.cons (Mem.le.refl _) (.rr (.zz (.rr (.zz .ii)))))) (v := .int .i64 x0.Inst) (fun w hS => r_load hm rfl (hS.load_one (p := 1) rfl Try.underlying3 rfl rfl)) fun a hm => t_take 3 [true, true, true, true, false, false, false, false, false, false].toArray rfl rfl rfl rfl rfl hm (hS.sub (.cons (Mem.le.refl _) (.rr (.zz (.rr (.zz .ii)))))) (v := .pointer (some ⟨g_2, 5, none⟩)) (fun w hS => r_fieldAddr hm Try.underlying29 rfl ti3 rfl rfl rfl) fun a hm => t_take 4 [true, true, true, true, true, false, false, false, false, false].toArray rfl rfl rfl rfl rfl hm (hS.sub (.cons (Mem.le.refl _) (.rr (.zz (.rr (.zz .ii)))))) (v := .int .i64 x0.Len) (fun w hS => r_load hm rfl (hS.load_one (p := 1) rfl Try.underlying3 rfl rfl)) fun a hm => ?_
  refine t_take 5 [true, true, true, true, true, true, false, false, false, false].toArray rfl rfl rfl rfl rfl hm (hS.sub (.cons (Mem.le.refl _) (.rr (.zz (.rr (.zz .ii)))))) (v := .pointer (some ⟨g_2, 6, none⟩)) (fun w hS => r_fieldAddr hm Try.underlying29 rfl ti4 rfl rfl rfl) fun a hm => t_take 6 [true, true, true, true, true, true, true, false, false, false].toArray rfl rfl rfl rfl rfl hm (hS.sub (.cons (Mem.le.refl _) (.rr (.zz (.rr (.zz .ii)))))) (v := .bool x0.Has) (fun w hS => r_load hm rfl (hS.load_one (p := 1) rfl Try.underlying4 rfl rfl)) fun a hm => h_event 7 [true, true, true, true, true, true, true, true, false, false].toArray rfl (by kernel_rfl) rfl ?_
  obtain ⟨t_23, et_23, H⟩ := Option.bind_eq_some_iff.1 H
  refine s_call hm rfl Try.call46 rfl (mesg_flag.calls x0.Has t_23 w0 _ _ _ (Mem.le.refl _) (hS.enter [] (by decide))  et_23) ?_
  rintro _ w_24 ⟨N_25, rfl, hS'⟩
  intro a hm
  obtain ⟨N_26, hS'', le_26, ln_26⟩ := hS.call [] (by decide) rfl (l' := []) (ow := []) rfl hS'
  replace hS : Sep w0 w_24 [N_26, _, _, _, _] Z := hS''
  clear hS' hS''
  refine wpList_nil <| x_then_n ⟨(hS.sub (.cons le_26 (.rr (.zz (.rr (.zz .ii)))))), ?_⟩
  refine h_event 8 [true, true, true, true, true, true, true, true, true, false].toArray rfl (by kernel_rfl) rfl ?_
  have hq_31 : Reps (Kd.int .i64) Mem.no ([x0.Inst, x0.Len, t_23] : List Int) _ := ((Reps.one (d := (Kd.int .i64)) (x := x0.Inst) (show (Kd.int .i64).K _ _ [.int .i64 x0.Inst] from rfl)).append ((Reps.one (d := (Kd.int .i64)) (x := x0.Len) (show (Kd.int .i64).K _ _ [.int .i64 x0.Len] from rfl)).append ((Reps.one (d := (Kd.int .i64)) (x := t_23) (show (Kd.int .i64).K _ _ [.int .i64 t_23] from rfl)).append (Reps.nil (Kd.int .i64) _))))
  refine s_buildSlice hm rfl Try.underlying22 ti3 rfl rfl rfl (.cons rfl (.cons rfl (.cons rfl .nil))) rfl rfl rfl hS hq_31 rfl fun w_27 v_28 M_29 hS' ho_30 a hm => ?_
  replace hS : Sep w0 w_27 [_, _, _, _, _, M_29] Z := hS'
  clear hS' hq_31
  refine wpList_nil <| x_then_n ⟨(hS.sub (.cons le_26 (.rr (.zz (.rr (.zz .nn)))))), ?_⟩
  refine h_event 9 [true, true, true, true, true, true, true, true, true, true].toArray rfl (by kernel_rfl) rfl ?_
  obtain ⟨t_33, et_33, H⟩ := Option.bind_eq_some_iff.1 H
  refine s_callv hm rfl rfl Try.call44 rfl (mesg_write_1.calls K ([x0.Inst, x0.Len, t_23] : List Int) _ _ t_12 _ _ t_33 w0 _ _ _ (Mem.le.refl _) (hS.enter [1, 3] (by decide)) (ho_30.rd (hS.own_zed [1, 3] 4 (by decide)) (Mem.no_le _)) hr_17 et_33) ?_
  rintro _ w_34 ⟨v_37, N_35, M_39, rfl, hS', hr_38⟩
  intro a hm
  obtain ⟨N_36, hS'', le_36, ln_36⟩ := hS.call [1, 3] (by decide) rfl (l' := [Mem.one g_4 (.cells ([v_37] : List Value).toArray 23 (0, 0)), M_39]) (ow := []) rfl hS'
  replace hS : Sep w0 w_34 [N_36, _, Mem.one g_4 (.cells ([v_37] : List Value).toArray 23 (0, 0)), _, M_39, _] Z := hS''
  clear hS' hS''
  refine wpList_nil <| x_then_n ⟨(hS.sub (.cons (le_26.trans le_36) (.rr (.zz (.rr (.zz .nn)))))), ?_⟩
  refine h_done (by kernel_rfl) ?_
  replace hm : Fr 90 a [(2, _), (3, _)] := hm.keep [2, 3]
  refine x_block_n <| x_then_n (hKJ_20 _ _ ?_)
  refine wp_seq <| wp_region_lit <| s_load hm rfl rfl (hS.load_one (p := 2) rfl Try.underlying23 rfl rfl) fun a hm => s_assign hm rfl rfl fun a hm => wpList_nil ?_
  replace hm : Fr 90 a [(2, v_37)] := hm.keep [2]
  refine x_then_n <| wp_ret ?_
  obtain ⟨N_41, hS', le_41, lo_41⟩ := hS.freeze 3 rfl
  replace hS : Sep w0 w_34 [N_41, _, _, _, Mem.no, _] Z := hS'
  clear hS'
  obtain rfl := Option.some.inj H
  exact f_ret hm (rs := [.tmp 2]) rfl (.tmp rfl .nil) ⟨_, rfl, v_37, N_41, rfl, (Sep.sel hS [0] (by decide)), ((hr_38.rd lo_41 (Mem.no_le _)).mono ((Mem.le.refl _).trans (hS.sndA hA)))⟩
 ·rw [if_neg hc_21] at H
  refine c_cond_f hm rfl (beq_eq_false_iff_ne.2 hc_21) <| wp_seq <| wp_region_lit <| s_cmp (b := (x0.Kind == 3)) hm rfl rfl rfl (.inl ⟨rfl, rfl⟩) fun a hm => s_assign hm rfl rfl fun a hm => wpList_nil ?_
  replace hm : Fr 90 a [(1, _), (2, _), (3, _), (4, _), (18, _), (31, .bool (x0.Kind == 3))] := hm.keep [1, 2, 3, 4, 18, 31]
  refine x_then_n ?_
  by_cases hc_42 : x0.Kind = 3
  ·rw [if_pos hc_42] at H
   refine c_cond_t hm rfl (beq_iff_eq.2 hc_42) <| wp_region_lit <| s_move hm rfl rfl fun a hm => s_fieldAddr hm rfl Try.underlying29 rfl ti3 rfl rfl fun a hm => s_load hm rfl rfl (hS.load_one (p := 1) rfl Try.underlying3 rfl rfl) fun a hm => s_fieldAddr hm rfl Try.underlying29 rfl ti3 rfl rfl fun a hm => s_load hm rfl rfl (hS.load_one (p := 1) rfl Try.underlying3 rfl rfl) fun a hm => s_fieldAddr hm rfl Try.underlying29 rfl ti3 rfl rfl fun a hm => s_load hm rfl rfl (hS.load_one (p := 1) rfl Try.underlying3 rfl rfl) fun a hm => ?_
   have hq_47 : Reps (Kd.int .i64) Mem.no ([x0.Members, x0.Source, x0.Len] : List Int) _ := ((Reps.one (d := (Kd.int .i64)) (x := x0.Members) (show (Kd.int .i64).K _ _ [.int .i64 x0.Members] from rfl)).append ((Reps.one (d := (Kd.int .i64)) (x := x0.Source) (show (Kd.int .i64).K _ _ [.int .i64 x0.Source] from rfl)).append ((Reps.one (d := (Kd.int .i64)) (x := x0.Len) (show (Kd.int .i64).K _ _ [.int .i64 x0.Len] from rfl)).append (Reps.nil (Kd.int .i64) _))))
   refine s_buildSlice hm rfl Try.underlying22 ti3 rfl rfl rfl (.cons rfl (.cons rfl (.cons rfl .nil))) rfl rfl rfl hS hq_47 rfl fun w_43 v_44 M_45 hS' ho_46 a hm => ?_
   replace hS : Sep w0 w_43 [_, _, _, _, _, M_45] Z := hS'
   clear hS' hq_47
   obtain ⟨t_49, et_49, H⟩ := Option.bind_eq_some_iff.1 H
   refine s_callv hm rfl rfl Try.call44 rfl (mesg_write_1.calls K ([x0.Members, x0.Source, x0.Len] : List Int) _ _ t_12 _ _ t_49 w0 _ _ _ (Mem.le.refl _) (hS.enter [1, 3] (by decide)) (ho_46.rd (hS.own_zed [1, 3] 4 (by decide)) (Mem.no_le _)) hr_17 et_49) ?_
   rintro _ w_50 ⟨v_53, N_51, M_55, rfl, hS', hr_54⟩
   intro a hm
   obtain ⟨N_52, hS'', le_52, ln_52⟩ := hS.call [1, 3] (by decide) rfl (l' := [Mem.one g_4 (.cells ([v_53] : List Value).toArray 23 (0, 0)), M_55]) (ow := []) rfl hS'
   replace hS : Sep w0 w_50 [N_52, _, Mem.one g_4 (.cells ([v_53] : List Value).toArray 23 (0, 0)), _, M_55, _] Z := hS''
   clear hS' hS''
   refine wpList_nil ?_
   replace hm : Fr 90 a [(2, _), (3, _)] := hm.keep [2, 3]
   refine x_block_n <| x_then_n (hKJ_20 _ _ ?_)
   refine wp_seq <| wp_region_lit <| s_load hm rfl rfl (hS.load_one (p := 2) rfl Try.underlying23 rfl rfl) fun a hm => s_assign hm rfl rfl fun a hm => wpList_nil ?_
   replace hm : Fr 90 a [(2, v_53)] := hm.keep [2]
   refine x_then_n <| wp_ret ?_
   obtain ⟨N_57, hS', le_57, lo_57⟩ := hS.freeze 3 rfl
   replace hS : Sep w0 w_50 [N_57, _, _, _, Mem.no, _] Z := hS'
   clear hS'
   obtain rfl := Option.some.inj H
   exact f_ret hm (rs := [.tmp 2]) rfl (.tmp rfl .nil) ⟨_, rfl, v_53, N_57, rfl, (Sep.sel hS [0] (by decide)), ((hr_54.rd lo_57 (Mem.no_le _)).mono ((Mem.le.refl _).trans (hS.sndA hA)))⟩
  ·rw [if_neg hc_42] at H
   refine c_cond_f hm rfl (beq_eq_false_iff_ne.2 hc_42) <| wp_seq <| wp_region_lit <| s_cmp (b := (x0.Kind == 4)) hm rfl rfl rfl (.inl ⟨rfl, rfl⟩) fun a hm => s_assign hm rfl rfl fun a hm => wpList_nil ?_
   replace hm : Fr 90 a [(1, _), (2, _), (3, _), (4, _), (18, _), (42, .bool (x0.Kind == 4))] := hm.keep [1, 2, 3, 4, 18, 42]
   refine x_then_n ?_
   by_cases hc_58 : x0.Kind = 4
   ·rw [if_pos hc_58] at H
    refine c_cond_t hm rfl (beq_iff_eq.2 hc_58) <| wp_region_lit <| s_move hm rfl rfl fun a hm => s_fieldAddr hm rfl Try.underlying29 rfl ti3 rfl rfl fun a hm => s_load hm rfl rfl (hS.load_one (p := 1) rfl Try.underlying3 rfl rfl) fun a hm => ?_
    have hq_63 : Reps (Kd.int .i64) Mem.no ([x0.At] : List Int) _ := ((Reps.one (d := (Kd.int .i64)) (x := x0.At) (show (Kd.int .i64).K _ _ [.int .i64 x0.At] from rfl)).append (Reps.nil (Kd.int .i64) _))
    refine s_buildSlice hm rfl Try.underlying22 ti3 rfl rfl rfl (.cons rfl .nil) rfl rfl rfl hS hq_63 rfl fun w_59 v_60 M_61 hS' ho_62 a hm => ?_
    replace hS : Sep w0 w_59 [_, _, _, _, _, M_61] Z := hS'
    clear hS' hq_63
    obtain ⟨t_65, et_65, H⟩ := Option.bind_eq_some_iff.1 H
    refine s_callv hm rfl rfl Try.call44 rfl (mesg_write_1.calls K ([x0.At] : List Int) _ _ t_12 _ _ t_65 w0 _ _ _ (Mem.le.refl _) (hS.enter [1, 3] (by decide)) (ho_62.rd (hS.own_zed [1, 3] 4 (by decide)) (Mem.no_le _)) hr_17 et_65) ?_
    rintro _ w_66 ⟨v_69, N_67, M_71, rfl, hS', hr_70⟩
    intro a hm
    obtain ⟨N_68, hS'', le_68, ln_68⟩ := hS.call [1, 3] (by decide) rfl (l' := [Mem.one g_4 (.cells ([v_69] : List Value).toArray 23 (0, 0)), M_71]) (ow := []) rfl hS'
    replace hS : Sep w0 w_66 [N_68, _, Mem.one g_4 (.cells ([v_69] : List Value).toArray 23 (0, 0)), _, M_71, _] Z := hS''
    clear hS' hS''
    refine wpList_nil ?_
    replace hm : Fr 90 a [(2, _), (3, _)] := hm.keep [2, 3]
    refine x_block_n <| x_then_n (hKJ_20 _ _ ?_)
    refine wp_seq <| wp_region_lit <| s_load hm rfl rfl (hS.load_one (p := 2) rfl Try.underlying23 rfl rfl) fun a hm => s_assign hm rfl rfl fun a hm => wpList_nil ?_
    replace hm : Fr 90 a [(2, v_69)] := hm.keep [2]
    refine x_then_n <| wp_ret ?_
    obtain ⟨N_73, hS', le_73, lo_73⟩ := hS.freeze 3 rfl
    replace hS : Sep w0 w_66 [N_73, _, _, _, Mem.no, _] Z := hS'
    clear hS'
    obtain rfl := Option.some.inj H
    exact f_ret hm (rs := [.tmp 2]) rfl (.tmp rfl .nil) ⟨_, rfl, v_69, N_73, rfl, (Sep.sel hS [0] (by decide)), ((hr_70.rd lo_73 (Mem.no_le _)).mono ((Mem.le.refl _).trans (hS.sndA hA)))⟩
   ·rw [if_neg hc_58] at H
    refine c_cond_f hm rfl (beq_eq_false_iff_ne.2 hc_58) <| wp_seq <| wp_region_lit <| s_cmp (b := (x0.Kind == 5)) hm rfl rfl rfl (.inl ⟨rfl, rfl⟩) fun a hm => s_assign hm rfl rfl fun a hm => wpList_nil ?_
    replace hm : Fr 90 a [(1, _), (2, _), (3, _), (4, _), (18, _), (49, .bool (x0.Kind == 5))] := hm.keep [1, 2, 3, 4, 18, 49]
    refine x_then_n ?_
    by_cases hc_74 : x0.Kind = 5
    ·rw [if_pos hc_74] at H
     refine c_cond_t hm rfl (beq_iff_eq.2 hc_74) <| wp_seq <| wp_region_lit <| s_move hm rfl rfl fun a hm => s_fieldAddr hm rfl Try.underlying29 rfl ti3 rfl rfl fun a hm => s_load hm rfl rfl (hS.load_one (p := 1) rfl Try.underlying3 rfl rfl) fun a hm => s_fieldAddr hm rfl Try.underlying29 rfl ti3 rfl rfl fun a hm => s_load hm rfl rfl (hS.load_one (p := 1) rfl Try.underlying3 rfl rfl) fun a hm => ?_
     have hq_79 : Reps (Kd.int .i64) Mem.no ([x0.At, x0.Total] : List Int) _ := ((Reps.one (d := (Kd.int .i64)) (x := x0.At) (show (Kd.int .i64).K _ _ [.int .i64 x0.At] from rfl)).append ((Reps.one (d := (Kd.int .i64)) (x := x0.Total) (show (Kd.int .i64).K _ _ [.int .i64 x0.Total] from rfl)).append (Reps.nil (Kd.int .i64) _)))
     refine s_buildSlice hm rfl Try.underlying22 ti3 rfl rfl rfl (.cons rfl (.cons rfl .nil)) rfl rfl rfl hS hq_79 rfl fun w_75 v_76 M_77 hS' ho_78 a hm => ?_
     replace hS : Sep w0 w_75 [_, _, _, _, _, M_77] Z := hS'
     clear hS' hq_79
     obtain ⟨t_81, et_81, H⟩ := Option.bind_eq_some_iff.1 H
     refine s_callv hm rfl rfl Try.call44 rfl (mesg_write_1.calls K ([x0.At, x0.Total] : List Int) _ _ t_12 _ _ t_81 w0 _ _ _ (Mem.le.refl _) (hS.enter [1, 3] (by decide)) (ho_78.rd (hS.own_zed [1, 3] 4 (by decide)) (Mem.no_le _)) hr_17 et_81) ?_
     rintro _ w_82 ⟨v_85, N_83, M_87, rfl, hS', hr_86⟩
     intro a hm
     obtain ⟨N_84, hS'', le_84, ln_84⟩ := hS.call [1, 3] (by decide) rfl (l' := [Mem.one g_4 (.cells ([v_85] : List Value).toArray 23 (0, 0)), M_87]) (ow := []) rfl hS'
     replace hS : Sep w0 w_82 [N_84, _, Mem.one g_4 (.cells ([v_85] : List Value).toArray 23 (0, 0)), _, M_87, _] Z := hS''
     clear hS' hS''
     refine wpList_nil ?_
     replace hm : Fr 90 a [(1, _), (2, _), (3, _)] := hm.keep [1, 2, 3]
     refine x_then_n <| wp_region_lit <| s_load hm rfl rfl (hS.load_one (p := 2) rfl Try.underlying23 rfl rfl) fun a hm => s_fieldAddr hm rfl Try.underlying29 rfl ti23 rfl rfl fun a hm => s_load hm rfl rfl (hS.load_one (p := 1) rfl Try.underlying23 rfl rfl) fun a hm => ?_
     obtain ⟨t_89, et_89, H⟩ := Option.bind_eq_some_iff.1 H
     refine s_call hm rfl Try.call47 rfl (pack_Bytes.calls K t_81 _ x0.Data _ t_89 w0 _ _ _ (Mem.le.refl _) (hS.enter [] (by decide)) (hr_86.rd (hS.own_zed [] 3 (by decide)) (Mem.no_le _)) (hp0_0.mono (hA.trans (hS.le_zed []))) et_89) ?_
     rintro v_93 w_90 ⟨_, N_91, M_95, rfl, hS', hr_94⟩
     intro a hm
     obtain ⟨N_92, hS'', le_92, ln_92⟩ := hS.call [] (by decide) rfl (l' := []) (ow := [M_95]) rfl hS'
     replace hS : Sep w0 w_90 [N_92, _, _, _, _, _, M_95] Z := hS''
     clear hS' hS''
     obtain ⟨w_97, hs', hS'⟩ := hS.store (P := Try.prog) (p := 2) (o := 0) (t := 23) (v := v_93) (vs := [v_93]) rfl ti23 hr_94.cellsA rfl rfl (by intro u hu; simp only [List.mem_cons, List.not_mem_nil, or_false] at hu; rcases hu with rfl <;> first | rfl | exact hr_94.one)
     refine s_store hm rfl rfl hs' ?_
     replace hS : Sep w0 w_97 [_, _, Mem.one g_4 (.cells ([v_93] : List Value).toArray 23 (0, 0)), _, _, _, _] Z := hS'
     clear hs' hS'
     refine wpList_nil ?_
     replace hm : Fr 90 a [(2, _), (3, _)] := hm.keep [2, 3]
     refine x_block_n <| x_then_n (hKJ_20 _ _ ?_)
     refine wp_seq <| wp_region_lit <| s_load hm rfl rfl (hS.load_one (p := 2) rfl Try.underlying23 rfl rfl) fun a hm => s_assign hm rfl rfl fun a hm => wpList_nil ?_
     replace hm : Fr 90 a [(2, v_93)] := hm.keep [2]
     refine x_then_n <| wp_ret ?_
     obtain ⟨N_98, hS', le_98, lo_98⟩ := hS.freeze 5 rfl
     replace hS : Sep w0 w_97 [N_98, _, _, _, _, _, Mem.no] Z := hS'
     clear hS'
     obtain rfl := Option.some.inj H
     exact f_ret hm (rs := [.tmp 2]) rfl (.tmp rfl .nil) ⟨_, rfl, v_93, N_98, rfl, (Sep.sel hS [0] (by decide)), ((hr_94.rd lo_98 (Mem.no_le _)).mono ((Mem.le.refl _).trans (hS.sndA hA)))⟩
    ·rw [if_neg hc_74] at H
     refine c_cond_f hm rfl (beq_eq_false_iff_ne.2 hc_74) <| wp_seq <| wp_region_lit <| s_cmp (b := (x0.Kind == 7)) hm rfl rfl rfl (.inl ⟨rfl, rfl⟩) fun a hm => s_assign hm rfl rfl fun a hm => wpList_nil ?_
     replace hm : Fr 90 a [(1, _), (2, _), (3, _), (4, _), (18, _), (62, .bool (x0.Kind == 7))] := hm.keep [1, 2, 3, 4, 18, 62]
     refine x_then_n ?_
     by_cases hc_99 : x0.Kind = 7
     ·rw [if_pos hc_99] at H
      refine c_cond_t hm rfl (beq_iff_eq.2 hc_99) <| wp_seq <| wp_region_lit <| s_move hm rfl rfl fun a hm => s_fieldAddr hm rfl Try.underlying29 rfl ti3 rfl rfl fun a hm => s_load hm rfl rfl (hS.load_one (p := 1) rfl Try.underlying3 rfl rfl) fun a hm => s_fieldAddr hm rfl Try.underlying29 rfl ti3 rfl rfl fun a hm => s_load hm rfl rfl (hS.load_one (p := 1) rfl Try.underlying3 rfl rfl) fun a hm => ?_
      have hq_104 : Reps (Kd.int .i64) Mem.no ([x0.Hop, x0.Seq] : List Int) _ := ((Reps.one (d := (Kd.int .i64)) (x := x0.Hop) (show (Kd.int .i64).K _ _ [.int .i64 x0.Hop] from rfl)).append ((Reps.one (d := (Kd.int .i64)) (x := x0.Seq) (show (Kd.int .i64).K _ _ [.int .i64 x0.Seq] from rfl)).append (Reps.nil (Kd.int .i64) _)))
      refine s_buildSlice hm rfl Try.underlying22 ti3 rfl rfl rfl (.cons rfl (.cons rfl .nil)) rfl rfl rfl hS hq_104 rfl fun w_100 v_101 M_102 hS' ho_103 a hm => ?_
      replace hS : Sep w0 w_100 [_, _, _, _, _, M_102] Z := hS'
      clear hS' hq_104
      obtain ⟨t_106, et_106, H⟩ := Option.bind_eq_some_iff.1 H
      refine s_callv hm rfl rfl Try.call44 rfl (mesg_write_1.calls K ([x0.Hop, x0.Seq] : List Int) _ _ t_12 _ _ t_106 w0 _ _ _ (Mem.le.refl _) (hS.enter [1, 3] (by decide)) (ho_103.rd (hS.own_zed [1, 3] 4 (by decide)) (Mem.no_le _)) hr_17 et_106) ?_
      rintro _ w_107 ⟨v_110, N_108, M_112, rfl, hS', hr_111⟩
      intro a hm
      obtain ⟨N_109, hS'', le_109, ln_109⟩ := hS.call [1, 3] (by decide) rfl (l' := [Mem.one g_4 (.cells ([v_110] : List Value).toArray 23 (0, 0)), M_112]) (ow := []) rfl hS'
      replace hS : Sep w0 w_107 [N_109, _, Mem.one g_4 (.cells ([v_110] : List Value).toArray 23 (0, 0)), _, M_112, _] Z := hS''
      clear hS' hS''
      refine wpList_nil ?_
      replace hm : Fr 90 a [(1, _), (2, _), (3, _)] := hm.keep [1, 2, 3]
      refine x_then_n <| h_begin (S := fun w => Sep w0 w [N_109, Mem.one g_2 (.cells ([.int .i64 x0.Kind, .int .i64 x0.From, .int .i64 x0.To, .int .i64 x0.View, .int .i64 x0.Inst, .int .i64 x0.Len, .bool x0.Has, .int .i64 x0.Members, .int .i64 x0.Source, .int .i64 x0.At, .int .i64 x0.Total, p0_0, .int .i64 x0.Hop, .int .i64 x0.Seq, p0_1, p0_2, .int .i64 x0.Index, .int .i64 x0.Entry.Sess, .int .i64 x0.Entry.Seq, .int .i64 x0.Entry.Cmd.Kind, .int .i64 x0.Entry.Cmd.Who, p0_3, p0_4, p0_5] : List Value).toArray 29 (0, 0)), Mem.no, M_7, M_112, M_102] Z) 8 (by kernel_rfl) rfl [false, false, false, false, false, false, false, false].toArray rfl hS fun w_114 hS => ?_
      replace hS : Sep w0 w_114 [_, _, _, _, _, _] Z := hS
      refine t_take 1 [false, true, false, false, false, false, false, false].toArray rfl rfl rfl rfl rfl hm (hS.sub (.cons (Mem.le.refl _) (.rr (.zz .ii)))) (v := .pointer (some ⟨g_2, 14, none⟩)) (fun w hS => r_fieldAddr hm Try.underlying29 rfl ti22 rfl rfl rfl) fun a hm => t_take 2 [false, true, true, false, false, false, false, false].toArray rfl rfl rfl rfl rfl hm (hS.sub (.cons (Mem.le.refl _) (.rr (.zz .ii)))) (v := p0_1) (fun w hS => r_load hm rfl (hS.load_one (p := 1) rfl Try.underlying22 rfl rfl)) fun a hm => t_take 4 [false, true, true, false, true, false, false, false].toArray rfl rfl rfl rfl rfl hm (hS.sub (.cons (Mem.le.refl _) (.rr (.zz .ii)))) (v := .pointer (some ⟨g_2, 15, none⟩)) (fun w hS => r_fieldAddr hm Try.underlying29 rfl ti22 rfl rfl rfl) fun a hm => t_take 5 [false, true, true, false, true, true, false, false].toArray rfl rfl rfl rfl rfl hm (hS.sub (.cons (Mem.le.refl _) (.rr (.zz .ii)))) (v := p0_2) (fun w hS => r_load hm rfl (hS.load_one (p := 1) rfl Try.underlying22 rfl rfl)) fun a hm => h_event 0 [true, true, true, false, true, true, false, false].toArray rfl (by kernel_rfl) rfl <| s_load hm rfl rfl (hS.load_one (p := 2) rfl Try.underlying23 rfl rfl) fun a hm => ?_
      refine wpList_nil <| x_then_n ⟨(hS.sub (.cons (Mem.le.refl _) (.rr (.zz .ii)))), ?_⟩
      refine h_event 3 [true, true, true, true, true, true, false, false].toArray rfl (by kernel_rfl) rfl ?_
      obtain ⟨t_115, et_115, H⟩ := Option.bind_eq_some_iff.1 H
      refine s_call hm rfl Try.call48 rfl (mesg_row.calls K t_106 _ x0.Have _ t_115 w0 _ _ _ (Mem.le.refl _) (hS.enter [] (by decide)) (hr_111.rd (hS.own_zed [] 3 (by decide)) (Mem.no_le _)) (hp0_1.mono (hA.trans (hS.le_zed []))) et_115) ?_
      rintro v_119 w_116 ⟨_, N_117, M_121, rfl, hS', hr_120⟩
      intro a hm
      obtain ⟨N_118, hS'', le_118, ln_118⟩ := hS.call [] (by decide) rfl (l' := []) (ow := [M_121]) rfl hS'
      replace hS : Sep w0 w_116 [N_118, _, _, _, _, _, M_121] Z := hS''
      clear hS' hS''
      refine wpList_nil <| x_then_n ⟨(hS.sub (.cons le_118 (.rr (.zz (.rr (.rr (.rr .nn))))))), ?_⟩
      refine h_event 6 [true, true, true, true, true, true, true, false].toArray rfl (by kernel_rfl) rfl ?_
      obtain ⟨t_123, et_123, H⟩ := Option.bind_eq_some_iff.1 H
      refine s_call hm rfl Try.call48 rfl (mesg_row.calls K t_115 _ x0.Need _ t_123 w0 _ _ _ (Mem.le.refl _) (hS.enter [] (by decide)) (hr_120.rd (hS.own_zed [] 5 (by decide)) (Mem.no_le _)) (hp0_2.mono (hA.trans (hS.le_zed []))) et_123) ?_
      rintro v_127 w_124 ⟨_, N_125, M_129, rfl, hS', hr_128⟩
      intro a hm
      obtain ⟨N_126, hS'', le_126, ln_126⟩ := hS.call [] (by decide) rfl (l' := []) (ow := [M_129]) rfl hS'
      replace hS : Sep w0 w_124 [N_126, _, _, _, _, _, _, M_129] Z := hS''
      clear hS' hS''
      refine wpList_nil <| x_then_n ⟨(hS.sub (.cons (le_118.trans le_126) (.rr (.zz (.rr (.rr (.rr .nn))))))), ?_⟩
      refine h_event 7 [true, true, true, true, true, true, true, true].toArray rfl (by kernel_rfl) rfl ?_
      obtain ⟨w_131, hs', hS'⟩ := hS.store (P := Try.prog) (p := 2) (o := 0) (t := 23) (v := v_127) (vs := [v_127]) rfl ti23 hr_128.cellsA rfl rfl (by intro u hu; simp only [List.mem_cons, List.not_mem_nil, or_false] at hu; rcases hu with rfl <;> first | rfl | exact hr_128.one)
      refine s_store hm rfl rfl hs' ?_
      replace hS : Sep w0 w_131 [_, _, Mem.one g_4 (.cells ([v_127] : List Value).toArray 23 (0, 0)), _, _, _, _, _] Z := hS'
      clear hs' hS'
      refine wpList_nil <| x_then_n ⟨(hS.sub (.cons (le_118.trans le_126) (.rr (.zz (.rr (.rr (.rr .nn))))))), ?_⟩
      refine h_done (by kernel_rfl) ?_
      replace hm : Fr 90 a [(2, _), (3, _)] := hm.keep [2, 3]
      refine x_block_n <| x_then_n (hKJ_20 _ _ ?_)
      refine wp_seq <| wp_region_lit <| s_load hm rfl rfl (hS.load_one (p := 2) rfl Try.underlying23 rfl rfl) fun a hm => s_assign hm rfl rfl fun a hm => wpList_nil ?_
      replace hm : Fr 90 a [(2, v_127)] := hm.keep [2]
      refine x_then_n <| wp_ret ?_
      obtain ⟨N_132, hS', le_132, lo_132⟩ := hS.freeze 6 rfl
      replace hS : Sep w0 w_131 [N_132, _, _, _, _, _, _, Mem.no] Z := hS'
      clear hS'
      obtain rfl := Option.some.inj H
      exact f_ret hm (rs := [.tmp 2]) rfl (.tmp rfl .nil) ⟨_, rfl, v_127, N_132, rfl, (Sep.sel hS [0] (by decide)), ((hr_128.rd lo_132 (Mem.no_le _)).mono ((Mem.le.refl _).trans (hS.sndA hA)))⟩
     ·rw [if_neg hc_99] at H
      refine c_cond_f hm rfl (beq_eq_false_iff_ne.2 hc_99) <| wp_seq <| wp_region_lit <| s_cmp (b := (x0.Kind == 8)) hm rfl rfl rfl (.inl ⟨rfl, rfl⟩) fun a hm => s_assign hm rfl rfl fun a hm => wpList_nil ?_
      replace hm : Fr 90 a [(1, _), (2, _), (3, _), (4, _), (78, .bool (x0.Kind == 8))] := hm.keep [1, 2, 3, 4, 78]
      refine x_then_n ?_
      by_cases hc_133 : x0.Kind = 8
      ·rw [if_pos hc_133] at H
       refine c_cond_t hm rfl (beq_iff_eq.2 hc_133) <| wp_seq <| wp_region_lit <| s_move hm rfl rfl fun a hm => s_fieldAddr hm rfl Try.underlying29 rfl ti3 rfl rfl fun a hm => s_load hm rfl rfl (hS.load_one (p := 1) rfl Try.underlying3 rfl rfl) fun a hm => ?_
       have hq_138 : Reps (Kd.int .i64) Mem.no ([x0.Index] : List Int) _ := ((Reps.one (d := (Kd.int .i64)) (x := x0.Index) (show (Kd.int .i64).K _ _ [.int .i64 x0.Index] from rfl)).append (Reps.nil (Kd.int .i64) _))
       refine s_buildSlice hm rfl Try.underlying22 ti3 rfl rfl rfl (.cons rfl .nil) rfl rfl rfl hS hq_138 rfl fun w_134 v_135 M_136 hS' ho_137 a hm => ?_
       replace hS : Sep w0 w_134 [_, _, _, _, _, M_136] Z := hS'
       clear hS' hq_138
       obtain ⟨t_140, et_140, H⟩ := Option.bind_eq_some_iff.1 H
       refine s_callv hm rfl rfl Try.call44 rfl (mesg_write_1.calls K ([x0.Index] : List Int) _ _ t_12 _ _ t_140 w0 _ _ _ (Mem.le.refl _) (hS.enter [1, 3] (by decide)) (ho_137.rd (hS.own_zed [1, 3] 4 (by decide)) (Mem.no_le _)) hr_17 et_140) ?_
       rintro _ w_141 ⟨v_144, N_142, M_146, rfl, hS', hr_145⟩
       intro a hm
       obtain ⟨N_143, hS'', le_143, ln_143⟩ := hS.call [1, 3] (by decide) rfl (l' := [Mem.one g_4 (.cells ([v_144] : List Value).toArray 23 (0, 0)), M_146]) (ow := []) rfl hS'
       replace hS : Sep w0 w_141 [N_143, _, Mem.one g_4 (.cells ([v_144] : List Value).toArray 23 (0, 0)), _, M_146, _] Z := hS''
       clear hS' hS''
       refine wpList_nil ?_
       replace hm : Fr 90 a [(1, _), (2, _), (3, _)] := hm.keep [1, 2, 3]
       refine x_then_n <| wp_region_lit <| s_load hm rfl rfl (hS.load_one (p := 2) rfl Try.underlying23 rfl rfl) fun a hm => s_fieldAddr hm rfl Try.underlying29 rfl ti27 rfl rfl fun a hm => s_load hm rfl rfl (hS.load_agg (p := 1) (us := [.int .i64 x0.Entry.Sess, .int .i64 x0.Entry.Seq, .int .i64 x0.Entry.Cmd.Kind, .int .i64 x0.Entry.Cmd.Who, p0_3, p0_4, p0_5]) rfl Try.underlying27 rfl ti27 rfl rfl) fun a hm => ?_
       obtain ⟨N_148, hS', le_148, lo_148⟩ := hS.freeze 3 rfl
       replace hS : Sep w0 w_141 [N_148, _, _, _, Mem.no, _] Z := hS'
       clear hS'
       obtain ⟨t_149, et_149, H⟩ := Option.bind_eq_some_iff.1 H
       refine s_call hm rfl Try.call49 rfl (mach_PutEntry.calls K t_140 _ x0.Entry _ _ _ t_149 w0 _ _ (A.un N_148) (Mem.un_le (hA.trans (hS.le_zed [])) (hS.new_zed [])) (hS.enter [] (by decide)) ((hr_145.rd lo_148 (Mem.no_le _)).mono ((Mem.le.refl _).trans (hS.sndA hA))) (hp0_3.mono (Mem.le_un _ _)) (hp0_4.mono (Mem.le_un _ _)) (hp0_5.mono (Mem.le_un _ _)) et_149) ?_
       rintro v_153 w_150 ⟨_, N_151, rfl, hS', hr_154⟩
       intro a hm
       obtain ⟨N_152, hS'', le_152, ln_152⟩ := hS.call [] (by decide) rfl (l' := []) (ow := []) rfl hS'
       replace hS : Sep w0 w_150 [N_152, _, _, _, _, _] Z := hS''
       clear hS' hS''
       have hr_155 : Rd Kd.u8 (A.un N_152) v_153 t_149 := hr_154.mono (Mem.un_le (Mem.un_left le_152) (ln_152.trans (hS.sndA hA)))
       obtain ⟨w_156, hs', hS'⟩ := hS.store (P := Try.prog) (p := 2) (o := 0) (t := 23) (v := v_153) (vs := [v_153]) rfl ti23 hr_155.cellsA rfl rfl (by intro u hu; simp only [List.mem_cons, List.not_mem_nil, or_false] at hu; rcases hu with rfl <;> first | rfl | exact hr_155.one)
       refine s_store hm rfl rfl hs' ?_
       replace hS : Sep w0 w_156 [_, _, Mem.one g_4 (.cells ([v_153] : List Value).toArray 23 (0, 0)), _, _, _] Z := hS'
       clear hs' hS'
       refine wpList_nil ?_
       replace hm : Fr 90 a [(2, _), (3, _)] := hm.keep [2, 3]
       refine x_block_n <| x_then_n (hKJ_20 _ _ ?_)
       refine wp_seq <| wp_region_lit <| s_load hm rfl rfl (hS.load_one (p := 2) rfl Try.underlying23 rfl rfl) fun a hm => s_assign hm rfl rfl fun a hm => wpList_nil ?_
       replace hm : Fr 90 a [(2, v_153)] := hm.keep [2]
       refine x_then_n <| wp_ret ?_
       obtain rfl := Option.some.inj H
       exact f_ret hm (rs := [.tmp 2]) rfl (.tmp rfl .nil) ⟨_, rfl, v_153, N_152, rfl, (Sep.sel hS [0] (by decide)), hr_155⟩
      ·rw [if_neg hc_133] at H
       refine c_cond_f hm rfl (beq_eq_false_iff_ne.2 hc_133) <| wp_skip <| x_block_n <| x_then_n (hKJ_20 _ _ ?_)
       refine wp_seq <| wp_region_lit <| s_load hm rfl rfl (hS.load_one (p := 2) rfl Try.underlying23 rfl rfl) fun a hm => s_assign hm rfl rfl fun a hm => wpList_nil ?_
       replace hm : Fr 90 a [(2, v_16)] := hm.keep [2]
       refine x_then_n <| wp_ret ?_
       obtain ⟨N_157, hS', le_157, lo_157⟩ := hS.freeze 3 rfl
       replace hS : Sep w0 w_13 [N_157, _, _, _, Mem.no] Z := hS'
       clear hS'
       obtain rfl := Option.some.inj H
       exact f_ret hm (rs := [.tmp 2]) rfl (.tmp rfl .nil) ⟨_, rfl, v_16, N_157, rfl, (Sep.sel hS [0] (by decide)), ((hr_17.rd lo_157 (Mem.no_le _)).mono ((Mem.le.refl _).trans (hS.sndA hA)))⟩

set_option maxHeartbeats 4000000 in
set_option maxRecDepth 20000 in
theorem mesg_Encode.calls (K : Nat) (x0 : api_Msg) (p0_0 : Value) (p0_1 : Value) (p0_2 : Value) (p0_3 : Value) (p0_4 : Value) (p0_5 : Value) (r : (List UInt8)) (w0 w : World) (Z A : Mem) (hA : A.le Z) (hS : Sep w0 w [] Z) (hp0_0 : Rd Kd.u8 A p0_0 x0.Data) (hp0_1 : Rd (Kd.int .i64) A p0_1 x0.Have) (hp0_2 : Rd (Kd.int .i64) A p0_2 x0.Need) (hp0_3 : Rd Kd.u8 A p0_3 x0.Entry.Cmd.Key) (hp0_4 : Rd Kd.u8 A p0_4 x0.Entry.Cmd.Val) (hp0_5 : Rd Kd.u8 A p0_5 x0.Entry.Cmd.Old)
    (H : mesg_Encode.f K x0 = some r) :
    Calls Try.prog 11 [.agg ([.int .i64 x0.Kind, .int .i64 x0.From, .int .i64 x0.To, .int .i64 x0.View, .int .i64 x0.Inst, .int .i64 x0.Len, .bool x0.Has, .int .i64 x0.Members, .int .i64 x0.Source, .int .i64 x0.At, .int .i64 x0.Total, p0_0, .int .i64 x0.Hop, .int .i64 x0.Seq, p0_1, p0_2, .int .i64 x0.Index, .int .i64 x0.Entry.Sess, .int .i64 x0.Entry.Seq, .int .i64 x0.Entry.Cmd.Kind, .int .i64 x0.Entry.Cmd.Who, p0_3, p0_4, p0_5] : List Value).toArray].toArray w (Ret fun v w' => ∃ (u0 : Value) (N : Mem), v = u0 ∧ Sep w0 w' [N] Z ∧ Rd Kd.u8 (A.un N) u0 r) := by
 unfold mesg_Encode.f at H
 refine f_enter _ Try.func11 rfl Try.ntmps11 rfl fun a hm => ?_
 replace hm : Fr 24 a [(0, .agg ([.int .i64 x0.Kind, .int .i64 x0.From, .int .i64 x0.To, .int .i64 x0.View, .int .i64 x0.Inst, .int .i64 x0.Len, .bool x0.Has, .int .i64 x0.Members, .int .i64 x0.Source, .int .i64 x0.At, .int .i64 x0.Total, p0_0, .int .i64 x0.Hop, .int .i64 x0.Seq, p0_1, p0_2, .int .i64 x0.Index, .int .i64 x0.Entry.Sess, .int .i64 x0.Entry.Seq, .int .i64 x0.Entry.Cmd.Kind, .int .i64 x0.Entry.Cmd.Who, p0_3, p0_4, p0_5] : List Value).toArray)] := hm
 replace hS := hS.start
 replace hS : Sep w0 w [_] Z := hS
 refine wp_seq <| wp_region_lit <| v_box (vs := [.int .i64 x0.Kind, .int .i64 x0.From, .int .i64 x0.To, .int .i64 x0.View, .int .i64 x0.Inst, .int .i64 x0.Len, .bool x0.Has, .int .i64 x0.Members, .int .i64 x0.Source, .int .i64 x0.At, .int .i64 x0.Total, p0_0, .int .i64 x0.Hop, .int .i64 x0.Seq, p0_1, p0_2, .int .i64 x0.Index, .int .i64 x0.Entry.Sess, .int .i64 x0.Entry.Seq, .int .i64 x0.Entry.Cmd.Kind, .int .i64 x0.Entry.Cmd.Who, p0_3, p0_4, p0_5]) hm rfl rfl rfl hS fun w_1 g_2 hS' a hm => ?_
 replace hS : Sep w0 w_1 [_, Mem.one g_2 (.cells ([.int .i64 x0.Kind, .int .i64 x0.From, .int .i64 x0.To, .int .i64 x0.View, .int .i64 x0.Inst, .int .i64 x0.Len, .bool x0.Has, .int .i64 x0.Members, .int .i64 x0.Source, .int .i64 x0.At, .int .i64 x0.Total, p0_0, .int .i64 x0.Hop, .int .i64 x0.Seq, p0_1, p0_2, .int .i64 x0.Index, .int .i64 x0.Entry.Sess, .int .i64 x0.Entry.Seq, .int .i64 x0.Entry.Cmd.Kind, .int .i64 x0.Entry.Cmd.Who, p0_3, p0_4, p0_5] : List Value).toArray 29 (0, 0))] Z := hS'
 clear hS'
 refine s_assign hm rfl rfl fun a hm => wpList_nil ?_
 replace hm : Fr 24 a [(1, .pointer (some ⟨g_2, 0, none⟩)), (2, .slice none 0 0)] := hm.keep [1, 2]
 refine x_then_n <| c_seq fun KJ_3 hKJ_3 => wp_seq <| wp_region_lit <| s_load hm rfl rfl (hS.load_agg (p := 1) (us := [.int .i64 x0.Kind, .int .i64 x0.From, .int .i64 x0.To, .int .i64 x0.View, .int .i64 x0.Inst, .int .i64 x0.Len, .bool x0.Has, .int .i64 x0.Members, .int .i64 x0.Source, .int .i64 x0.At, .int .i64 x0.Total, p0_0, .int .i64 x0.Hop, .int .i64 x0.Seq, p0_1, p0_2, .int .i64 x0.Index, .int .i64 x0.Entry.Sess, .int .i64 x0.Entry.Seq, .int .i64 x0.Entry.Cmd.Kind, .int .i64 x0.Entry.Cmd.Who, p0_3, p0_4, p0_5]) rfl Try.underlying29 rfl ti29 rfl rfl) fun a hm => ?_
 obtain ⟨t_4, et_4, H⟩ := Option.bind_eq_some_iff.1 H
 refine s_call hm rfl Try.call24 rfl (mesg_beyond.calls x0 _ _ _ _ _ _ t_4 w0 _ _ _ (Mem.le.refl _) (hS.enter [] (by decide)) (hp0_0.mono (hA.trans (hS.le_zed []))) (hp0_1.mono (hA.trans (hS.le_zed []))) (hp0_2.mono (hA.trans (hS.le_zed []))) (hp0_3.mono (hA.trans (hS.le_zed []))) (hp0_4.mono (hA.trans (hS.le_zed []))) (hp0_5.mono (hA.trans (hS.le_zed []))) et_4) ?_
 rintro _ w_5 ⟨N_6, rfl, hS'⟩
 intro a hm
 obtain ⟨N_7, hS'', le_7, ln_7⟩ := hS.call [] (by decide) rfl (l' := []) (ow := []) rfl hS'
 replace hS : Sep w0 w_5 [N_7, _] Z := hS''
 clear hS' hS''
 refine wpList_nil ?_
 replace hm : Fr 24 a [(1, _), (2, _), (7, .bool t_4)] := hm.keep [1, 2, 7]
 refine x_then_n ?_
 by_cases hc_8 : t_4 = true
 ·rw [if_pos hc_8] at H
  refine c_cond_t hm rfl hc_8 <| wp_seq <| wp_region_lit <| s_assign hm rfl rfl fun a hm => wpList_nil ?_
  replace hm : Fr 24 a [(1, _), (2, _)] := hm.keep [1, 2]
  refine x_then_n <| wp_ret (x_then_r ?_)
  obtain rfl := Option.some.inj H
  exact f_ret hm (rs := [.tmp 2]) rfl (.tmp rfl .nil) ⟨_, rfl, .slice none 0 0, N_7, rfl, (Sep.sel hS [0] (by decide)), (Rd.nil _ _)⟩
 ·rw [if_neg hc_8] at H
  refine c_cond_f hm rfl (Bool.eq_false_iff.2 hc_8) <| wp_skip <| x_then_n (hKJ_3 _ _ ?_)
  refine wp_seq <| wp_region_lit <| s_load hm rfl rfl (hS.load_agg (p := 1) (us := [.int .i64 x0.Kind, .int .i64 x0.From, .int .i64 x0.To, .int .i64 x0.View, .int .i64 x0.Inst, .int .i64 x0.Len, .bool x0.Has, .int .i64 x0.Members, .int .i64 x0.Source, .int .i64 x0.At, .int .i64 x0.Total, p0_0, .int .i64 x0.Hop, .int .i64 x0.Seq, p0_1, p0_2, .int .i64 x0.Index, .int .i64 x0.Entry.Sess, .int .i64 x0.Entry.Seq, .int .i64 x0.Entry.Cmd.Kind, .int .i64 x0.Entry.Cmd.Who, p0_3, p0_4, p0_5]) rfl Try.underlying29 rfl ti29 rfl rfl) fun a hm => ?_
  obtain ⟨t_9, et_9, H⟩ := Option.bind_eq_some_iff.1 H
  refine s_call hm rfl Try.call25 rfl (mesg_write.calls K x0 _ _ _ _ _ _ t_9 w0 _ _ A (hA.trans (hS.le_zed [])) (hS.enter [] (by decide)) hp0_0 hp0_1 hp0_2 hp0_3 hp0_4 hp0_5 et_9) ?_
  rintro v_13 w_10 ⟨_, N_11, rfl, hS', hr_14⟩
  intro a hm
  obtain ⟨N_12, hS'', le_12, ln_12⟩ := hS.call [] (by decide) rfl (l' := []) (ow := []) rfl hS'
  replace hS : Sep w0 w_10 [N_12, _] Z := hS''
  clear hS' hS''
  have hr_15 : Rd Kd.u8 (A.un N_12) v_13 t_9 := hr_14.mono (Mem.un_left ln_12)
  refine s_assign hm rfl rfl fun a hm => wpList_nil ?_
  replace hm : Fr 24 a [(1, _), (2, _), (3, v_13)] := hm.keep [1, 2, 3]
  refine x_then_n <| c_seq fun KJ_16 hKJ_16 => wp_seq <| wp_region_lit <| s_move hm rfl rfl fun a hm => ?_
  obtain ⟨t_17, et_17, H⟩ := Option.bind_eq_some_iff.1 H
  refine s_call hm rfl Try.call26 rfl (mesg_read.calls K t_9 _ t_17 w0 _ _ _ (Mem.le.refl _) (hS.enter [] (by decide)) (hr_15.mono (Mem.un_le (hA.trans (hS.le_zed [])) ((Mem.le.refl _).trans (hS.new_zed [])))) et_17) ?_
  rintro _ w_18 ⟨v_21, v_25, v_29, v_33, v_37, v_41, N_19, M_23, M_27, M_31, M_35, M_39, M_43, rfl, hS', hr_22, hr_26, hr_30, hr_34, hr_38, hr_42⟩
  intro a hm
  obtain ⟨N_20, hS'', le_20, ln_20⟩ := hS.call [] (by decide) rfl (l' := []) (ow := [M_23, M_27, M_31, M_35, M_39, M_43]) rfl hS'
  replace hS : Sep w0 w_18 [N_20, _, M_23, M_27, M_31, M_35, M_39, M_43] Z := hS''
  clear hS' hS''
  refine s_move hm rfl rfl fun a hm => s_extract hm rfl rfl rfl fun a hm => s_extract hm rfl rfl rfl fun a hm => v_alloc hm rfl ti29 hS fun w_45 g_46 hS' a hm => ?_
  replace hS : Sep w0 w_45 [_, _, _, _, _, _, _, _, Mem.one g_46 (.cells ([.int .i64 0, .int .i64 0, .int .i64 0, .int .i64 0, .int .i64 0, .int .i64 0, .bool false, .int .i64 0, .int .i64 0, .int .i64 0, .int .i64 0, .slice none 0 0, .int .i64 0, .int .i64 0, .slice none 0 0, .slice none 0 0, .int .i64 0, .int .i64 0, .int .i64 0, .int .i64 0, .int .i64 0, .slice none 0 0, .slice none 0 0, .slice none 0 0] : List Value).toArray 29 (0, 0))] Z := hS'
  clear hS'
  obtain ⟨w_47, hs', hS'⟩ := hS.store (P := Try.prog) (p := 8) (o := 0) (t := 29) (v := .agg ([.int .i64 t_17.1.Kind, .int .i64 t_17.1.From, .int .i64 t_17.1.To, .int .i64 t_17.1.View, .int .i64 t_17.1.Inst, .int .i64 t_17.1.Len, .bool t_17.1.Has, .int .i64 t_17.1.Members, .int .i64 t_17.1.Source, .int .i64 t_17.1.At, .int .i64 t_17.1.Total, v_21, .int .i64 t_17.1.Hop, .int .i64 t_17.1.Seq, v_25, v_29, .int .i64 t_17.1.Index, .int .i64 t_17.1.Entry.Sess, .int .i64 t_17.1.Entry.Seq, .int .i64 t_17.1.Entry.Cmd.Kind, .int .i64 t_17.1.Entry.Cmd.Who, v_33, v_37, v_41] : List Value).toArray) (vs := [.int .i64 t_17.1.Kind, .int .i64 t_17.1.From, .int .i64 t_17.1.To, .int .i64 t_17.1.View, .int .i64 t_17.1.Inst, .int .i64 t_17.1.Len, .bool t_17.1.Has, .int .i64 t_17.1.Members, .int .i64 t_17.1.Source, .int .i64 t_17.1.At, .int .i64 t_17.1.Total, v_21, .int .i64 t_17.1.Hop, .int .i64 t_17.1.Seq, v_25, v_29, .int .i64 t_17.1.Index, .int .i64 t_17.1.Entry.Sess, .int .i64 t_17.1.Entry.Seq, .int .i64 t_17.1.Entry.Cmd.Kind, .int .i64 t_17.1.Entry.Cmd.Who, v_33, v_37, v_41]) rfl ti29 rfl rfl rfl (by intro u hu; simp only [List.mem_cons, List.not_mem_nil, or_false] at hu; rcases hu with rfl | rfl | rfl | rfl | rfl | rfl | rfl | rfl | rfl | rfl | rfl | rfl | rfl | rfl | rfl | rfl | rfl | rfl | rfl | rfl | rfl | rfl | rfl | rfl <;> first | rfl | exact hr_22.one | exact hr_26.one | exact hr_30.one | exact hr_34.one | exact hr_38.one | exact hr_42.one)
  refine s_store hm rfl rfl hs' ?_
  replace hS : Sep w0 w_47 [_, _, _, _, _, _, _, _, Mem.one g_46 (.cells ([.int .i64 t_17.1.Kind, .int .i64 t_17.1.From, .int .i64 t_17.1.To, .int .i64 t_17.1.View, .int .i64 t_17.1.Inst, .int .i64 t_17.1.Len, .bool t_17.1.Has, .int .i64 t_17.1.Members, .int .i64 t_17.1.Source, .int .i64 t_17.1.At, .int .i64 t_17.1.Total, v_21, .int .i64 t_17.1.Hop, .int .i64 t_17.1.Seq, v_25, v_29, .int .i64 t_17.1.Index, .int .i64 t_17.1.Entry.Sess, .int .i64 t_17.1.Entry.Seq, .int .i64 t_17.1.Entry.Cmd.Kind, .int .i64 t_17.1.Entry.Cmd.Who, v_33, v_37, v_41] : List Value).toArray 29 (0, 0))] Z := hS'
  clear hs' hS'
  refine s_assign hm rfl rfl fun a hm => wpList_nil ?_
  replace hm : Fr 24 a [(1, _), (2, _), (3, _), (4, .pointer (some ⟨g_46, 0, none⟩)), (5, .bool t_17.2)] := hm.keep [1, 2, 3, 4, 5]
  refine x_then_n <| c_seq fun KJ_48 hKJ_48 => wp_region_lit <| s_move hm rfl rfl fun a hm => s_not hm rfl rfl fun a hm => s_move hm rfl rfl fun a hm => ?_
  by_cases hc_49 : t_17.2 = true
  ·rw [if_pos hc_49] at H
   refine s_on hm rfl rfl (nf hc_49) <| s_load hm rfl rfl (hS.load_agg (p := 8) (us := [.int .i64 t_17.1.Kind, .int .i64 t_17.1.From, .int .i64 t_17.1.To, .int .i64 t_17.1.View, .int .i64 t_17.1.Inst, .int .i64 t_17.1.Len, .bool t_17.1.Has, .int .i64 t_17.1.Members, .int .i64 t_17.1.Source, .int .i64 t_17.1.At, .int .i64 t_17.1.Total, v_21, .int .i64 t_17.1.Hop, .int .i64 t_17.1.Seq, v_25, v_29, .int .i64 t_17.1.Index, .int .i64 t_17.1.Entry.Sess, .int .i64 t_17.1.Entry.Seq, .int .i64 t_17.1.Entry.Cmd.Kind, .int .i64 t_17.1.Entry.Cmd.Who, v_33, v_37, v_41]) rfl Try.underlying29 rfl ti29 rfl rfl) fun a hm => s_on hm rfl rfl (nf hc_49) <| s_load hm rfl rfl (hS.load_agg (p := 1) (us := [.int .i64 x0.Kind, .int .i64 x0.From, .int .i64 x0.To, .int .i64 x0.View, .int .i64 x0.Inst, .int .i64 x0.Len, .bool x0.Has, .int .i64 x0.Members, .int .i64 x0.Source, .int .i64 x0.At, .int .i64 x0.Total, p0_0, .int .i64 x0.Hop, .int .i64 x0.Seq, p0_1, p0_2, .int .i64 x0.Index, .int .i64 x0.Entry.Sess, .int .i64 x0.Entry.Seq, .int .i64 x0.Entry.Cmd.Kind, .int .i64 x0.Entry.Cmd.Who, p0_3, p0_4, p0_5]) rfl Try.underlying29 rfl ti29 rfl rfl) fun a hm => s_on hm rfl rfl (nf hc_49) ?_
   obtain ⟨t_50, et_50, H⟩ := Option.bind_eq_some_iff.1 H
   refine s_call hm rfl Try.call27 rfl (mesg_alike.calls K t_17.1 _ _ _ _ _ _ x0 _ _ _ _ _ _ t_50 w0 _ _ _ (Mem.le.refl _) (hS.enter [] (by decide)) (hr_22.rd (hS.own_zed [] 1 (by decide)) (Mem.no_le _)) (hr_26.rd (hS.own_zed [] 2 (by decide)) (Mem.no_le _)) (hr_30.rd (hS.own_zed [] 3 (by decide)) (Mem.no_le _)) (hr_34.rd (hS.own_zed [] 4 (by decide)) (Mem.no_le _)) (hr_38.rd (hS.own_zed [] 5 (by decide)) (Mem.no_le _)) (hr_42.rd (hS.own_zed [] 6 (by decide)) (Mem.no_le _)) (hp0_0.mono (hA.trans (hS.le_zed []))) (hp0_1.mono (hA.trans (hS.le_zed []))) (hp0_2.mono (hA.trans (hS.le_zed []))) (hp0_3.mono (hA.trans (hS.le_zed []))) (hp0_4.mono (hA.trans (hS.le_zed []))) (hp0_5.mono (hA.trans (hS.le_zed []))) et_50) ?_
   rintro _ w_51 ⟨N_52, rfl, hS'⟩
   intro a hm
   obtain ⟨N_53, hS'', le_53, ln_53⟩ := hS.call [] (by decide) rfl (l' := []) (ow := []) rfl hS'
   replace hS : Sep w0 w_51 [N_53, _, _, _, _, _, _, _, _] Z := hS''
   clear hS' hS''
   refine s_on hm rfl rfl (nf hc_49) <| s_not hm rfl rfl fun a hm => s_pick_f hm rfl rfl (nf hc_49) rfl fun a hm => wpList_nil ?_
   replace hm : Fr 24 a [(2, _), (3, _), (22, .bool (!t_50))] := hm.keep [2, 3, 22]
   refine x_then_n (hKJ_48 _ _ ?_)
   by_cases hc_54 : t_50 = true
   ·rw [if_pos hc_54] at H
    refine c_cond_f hm rfl (nf hc_54) <| wp_skip <| x_then_n (hKJ_16 _ _ ?_)
    refine wp_seq <| wp_region_lit <| s_move hm rfl rfl fun a hm => s_assign hm rfl rfl fun a hm => wpList_nil ?_
    replace hm : Fr 24 a [(2, v_13)] := hm.keep [2]
    refine x_then_n <| wp_ret ?_
    obtain rfl := Option.some.inj H
    exact f_ret hm (rs := [.tmp 2]) rfl (.tmp rfl .nil) ⟨_, rfl, v_13, N_53, rfl, (Sep.sel hS [0] (by decide)), (hr_15.mono (Mem.un_left (le_20.trans le_53)))⟩
   ·rw [if_neg hc_54] at H
    refine c_cond_t hm rfl (nt (Bool.eq_false_iff.2 hc_54)) <| wp_seq <| wp_region_lit <| s_assign hm rfl rfl fun a hm => wpList_nil ?_
    replace hm : Fr 24 a [(2, _), (3, _)] := hm.keep [2, 3]
    refine x_then_n <| wp_ret (x_then_r ?_)
    obtain rfl := Option.some.inj H
    exact f_ret hm (rs := [.tmp 2]) rfl (.tmp rfl .nil) ⟨_, rfl, .slice none 0 0, N_53, rfl, (Sep.sel hS [0] (by decide)), (Rd.nil _ _)⟩
  ·rw [if_neg hc_49] at H
   refine s_off hm rfl rfl rfl (nt (Bool.eq_false_iff.2 hc_49)) fun a hm => s_off hm rfl rfl rfl (nt (Bool.eq_false_iff.2 hc_49)) fun a hm => s_off hm rfl rfl rfl (nt (Bool.eq_false_iff.2 hc_49)) fun a hm => s_off hm rfl rfl rfl (nt (Bool.eq_false_iff.2 hc_49)) fun a hm => s_pick_t hm rfl rfl (nt (Bool.eq_false_iff.2 hc_49)) rfl fun a hm => wpList_nil ?_
   replace hm : Fr 24 a [(2, _), (3, _), (22, .bool true)] := hm.keep [2, 3, 22]
   refine x_then_n (hKJ_48 _ _ ?_)
   refine c_cond_t hm rfl rfl <| wp_seq <| wp_region_lit <| s_assign hm rfl rfl fun a hm => wpList_nil ?_
   replace hm : Fr 24 a [(2, _), (3, _)] := hm.keep [2, 3]
   refine x_then_n <| wp_ret (x_then_r ?_)
   obtain rfl := Option.some.inj H
   exact f_ret hm (rs := [.tmp 2]) rfl (.tmp rfl .nil) ⟨_, rfl, .slice none 0 0, N_20, rfl, (Sep.sel hS [0] (by decide)), (Rd.nil _ _)⟩

set_option maxHeartbeats 4000000 in
set_option maxRecDepth 20000 in
theorem fram_Wrap.calls (K : Nat) (x0 : api_Msg) (p0_0 : Value) (p0_1 : Value) (p0_2 : Value) (p0_3 : Value) (p0_4 : Value) (p0_5 : Value) (r : (List UInt8)) (w0 w : World) (Z A : Mem) (hA : A.le Z) (hS : Sep w0 w [] Z) (hp0_0 : Rd Kd.u8 A p0_0 x0.Data) (hp0_1 : Rd (Kd.int .i64) A p0_1 x0.Have) (hp0_2 : Rd (Kd.int .i64) A p0_2 x0.Need) (hp0_3 : Rd Kd.u8 A p0_3 x0.Entry.Cmd.Key) (hp0_4 : Rd Kd.u8 A p0_4 x0.Entry.Cmd.Val) (hp0_5 : Rd Kd.u8 A p0_5 x0.Entry.Cmd.Old)
    (H : fram_Wrap.f K x0 = some r) :
    Calls Try.prog 19 [.agg ([.int .i64 x0.Kind, .int .i64 x0.From, .int .i64 x0.To, .int .i64 x0.View, .int .i64 x0.Inst, .int .i64 x0.Len, .bool x0.Has, .int .i64 x0.Members, .int .i64 x0.Source, .int .i64 x0.At, .int .i64 x0.Total, p0_0, .int .i64 x0.Hop, .int .i64 x0.Seq, p0_1, p0_2, .int .i64 x0.Index, .int .i64 x0.Entry.Sess, .int .i64 x0.Entry.Seq, .int .i64 x0.Entry.Cmd.Kind, .int .i64 x0.Entry.Cmd.Who, p0_3, p0_4, p0_5] : List Value).toArray].toArray w (Ret fun v w' => ∃ (u0 : Value) (N : Mem) (M0 : Mem), v = u0 ∧ Sep w0 w' [N, M0] Z ∧ Own Kd.u8 5 M0 Mem.no u0 r) := by
 unfold fram_Wrap.f at H
 refine f_enter _ Try.func19 rfl Try.ntmps19 rfl fun a hm => ?_
 replace hm : Fr 11 a [(0, .agg ([.int .i64 x0.Kind, .int .i64 x0.From, .int .i64 x0.To, .int .i64 x0.View, .int .i64 x0.Inst, .int .i64 x0.Len, .bool x0.Has, .int .i64 x0.Members, .int .i64 x0.Source, .int .i64 x0.At, .int .i64 x0.Total, p0_0, .int .i64 x0.Hop, .int .i64 x0.Seq, p0_1, p0_2, .int .i64 x0.Index, .int .i64 x0.Entry.Sess, .int .i64 x0.Entry.Seq, .int .i64 x0.Entry.Cmd.Kind, .int .i64 x0.Entry.Cmd.Who, p0_3, p0_4, p0_5] : List Value).toArray)] := hm
 replace hS := hS.start
 replace hS : Sep w0 w [_] Z := hS
 refine wp_seq <| wp_region_lit <| v_box (vs := [.int .i64 x0.Kind, .int .i64 x0.From, .int .i64 x0.To, .int .i64 x0.View, .int .i64 x0.Inst, .int .i64 x0.Len, .bool x0.Has, .int .i64 x0.Members, .int .i64 x0.Source, .int .i64 x0.At, .int .i64 x0.Total, p0_0, .int .i64 x0.Hop, .int .i64 x0.Seq, p0_1, p0_2, .int .i64 x0.Index, .int .i64 x0.Entry.Sess, .int .i64 x0.Entry.Seq, .int .i64 x0.Entry.Cmd.Kind, .int .i64 x0.Entry.Cmd.Who, p0_3, p0_4, p0_5]) hm rfl rfl rfl hS fun w_1 g_2 hS' a hm => ?_
 replace hS : Sep w0 w_1 [_, Mem.one g_2 (.cells ([.int .i64 x0.Kind, .int .i64 x0.From, .int .i64 x0.To, .int .i64 x0.View, .int .i64 x0.Inst, .int .i64 x0.Len, .bool x0.Has, .int .i64 x0.Members, .int .i64 x0.Source, .int .i64 x0.At, .int .i64 x0.Total, p0_0, .int .i64 x0.Hop, .int .i64 x0.Seq, p0_1, p0_2, .int .i64 x0.Index, .int .i64 x0.Entry.Sess, .int .i64 x0.Entry.Seq, .int .i64 x0.Entry.Cmd.Kind, .int .i64 x0.Entry.Cmd.Who, p0_3, p0_4, p0_5] : List Value).toArray 29 (0, 0))] Z := hS'
 clear hS'
 refine s_assign hm rfl rfl fun a hm => wpList_nil ?_
 replace hm : Fr 11 a [(1, .pointer (some ⟨g_2, 0, none⟩)), (2, .slice none 0 0)] := hm.keep [1, 2]
 refine x_then_n <| wp_seq <| wp_region_lit <| s_load hm rfl rfl (hS.load_agg (p := 1) (us := [.int .i64 x0.Kind, .int .i64 x0.From, .int .i64 x0.To, .int .i64 x0.View, .int .i64 x0.Inst, .int .i64 x0.Len, .bool x0.Has, .int .i64 x0.Members, .int .i64 x0.Source, .int .i64 x0.At, .int .i64 x0.Total, p0_0, .int .i64 x0.Hop, .int .i64 x0.Seq, p0_1, p0_2, .int .i64 x0.Index, .int .i64 x0.Entry.Sess, .int .i64 x0.Entry.Seq, .int .i64 x0.Entry.Cmd.Kind, .int .i64 x0.Entry.Cmd.Who, p0_3, p0_4, p0_5]) rfl Try.underlying29 rfl ti29 rfl rfl) fun a hm => ?_
 obtain ⟨t_3, et_3, H⟩ := Option.bind_eq_some_iff.1 H
 refine s_call hm rfl Try.call11 rfl (mesg_Encode.calls K x0 _ _ _ _ _ _ t_3 w0 _ _ A (hA.trans (hS.le_zed [])) (hS.enter [] (by decide)) hp0_0 hp0_1 hp0_2 hp0_3 hp0_4 hp0_5 et_3) ?_
 rintro v_7 w_4 ⟨_, N_5, rfl, hS', hr_8⟩
 intro a hm
 obtain ⟨N_6, hS'', le_6, ln_6⟩ := hS.call [] (by decide) rfl (l' := []) (ow := []) rfl hS'
 replace hS : Sep w0 w_4 [N_6, _] Z := hS''
 clear hS' hS''
 have hr_9 : Rd Kd.u8 (A.un N_6) v_7 t_3 := hr_8.mono (Mem.un_left ln_6)
 refine s_assign hm rfl rfl fun a hm => wpList_nil ?_
 replace hm : Fr 11 a [(2, _), (3, v_7)] := hm.keep [2, 3]
 refine x_then_n <| c_seq fun KJ_10 hKJ_10 => wp_seq <| wp_region_lit <| s_move hm rfl rfl fun a hm => s_len hm rfl Try.underlying23 rfl hr_9 fun a hm => s_cmp (b := ((t_3.length : Int) == 0)) hm rfl rfl rfl (.inl ⟨rfl, rfl⟩) fun a hm => wpList_nil ?_
 replace hm : Fr 11 a [(2, _), (3, _), (8, .bool ((t_3.length : Int) == 0))] := hm.keep [2, 3, 8]
 refine x_then_n ?_
 by_cases hc_11 : (t_3.length : Int) = 0
 ·rw [if_pos hc_11] at H
  refine c_cond_t hm rfl (beq_iff_eq.2 hc_11) <| wp_seq <| wp_region_lit <| s_assign hm rfl rfl fun a hm => wpList_nil ?_
  replace hm : Fr 11 a [(2, _), (3, _)] := hm.keep [2, 3]
  refine x_then_n <| wp_ret (x_then_r ?_)
  have hS' := hS.room
  replace hS : Sep w0 w_4 [_, _, Mem.no] Z := hS'
  clear hS'
  obtain rfl := Option.some.inj H
  exact f_ret hm (rs := [.tmp 2]) rfl (.tmp rfl .nil) ⟨_, rfl, .slice none 0 0, N_6, Mem.no, rfl, (Sep.sel hS [0, 2] (by decide)), (Own.nil Kd.u8 5 Mem.no)⟩
 ·rw [if_neg hc_11] at H
  refine c_cond_f hm rfl (beq_eq_false_iff_ne.2 hc_11) <| wp_skip <| x_then_n (hKJ_10 _ _ ?_)
  refine wp_seq <| wp_region_lit <| s_move hm rfl rfl fun a hm => ?_
  obtain ⟨t_13, et_13, H⟩ := Option.bind_eq_some_iff.1 H
  refine s_call hm rfl Try.call40 rfl (fram_Sealed.calls K t_3 _ t_13 w0 _ _ _ (Mem.le.refl _) (hS.enter [] (by decide)) (hr_9.mono (Mem.un_le (hA.trans (hS.le_zed [])) ((Mem.le.refl _).trans (hS.new_zed [])))) et_13) ?_
  rintro v_17 w_14 ⟨_, N_15, M_19, rfl, hS', hr_18⟩
  intro a hm
  obtain ⟨N_16, hS'', le_16, ln_16⟩ := hS.call [] (by decide) rfl (l' := []) (ow := [M_19]) rfl hS'
  replace hS : Sep w0 w_14 [N_16, _, M_19] Z := hS''
  clear hS' hS''
  refine s_assign hm rfl rfl fun a hm => wpList_nil ?_
  replace hm : Fr 11 a [(2, v_17)] := hm.keep [2]
  refine x_then_n <| wp_ret ?_
  obtain rfl := Option.some.inj H
  exact f_ret hm (rs := [.tmp 2]) rfl (.tmp rfl .nil) ⟨_, rfl, v_17, N_16, M_19, rfl, (Sep.sel hS [0, 2] (by decide)), hr_18⟩

set_option maxHeartbeats 4000000 in
set_option maxRecDepth 20000 in
theorem hocketlaw12_awake.calls (K : Nat) (r : Unit) (w0 w : World) (Z A : Mem) (hA : A.le Z) (hS : Sep w0 w [] Z)
    (H : hocketlaw12_awake.f K = some r) :
    Calls Try.prog 21 [].toArray w (Ret fun v w' => ∃ (N : Mem), v = .bool true ∧ Sep w0 w' [N] Z) := by
 unfold hocketlaw12_awake.f at H
 refine f_enter _ Try.func21 rfl Try.ntmps21 rfl fun a hm => ?_
 replace hm : Fr 45 a [] := hm
 replace hS := hS.start
 replace hS : Sep w0 w [_] Z := hS
 refine wp_seq <| wp_region_lit <| s_assign hm rfl rfl fun a hm => wpList_nil ?_
 replace hm : Fr 45 a [(0, .bool false)] := hm.keep [0]
 refine x_then_n <| wp_seq <| wp_region_lit <| s_build hm rfl ti29 pl29 rfl (.cons rfl (.cons rfl (.cons rfl (.cons rfl .nil)))) (cs := [.int .i64 1, .int .i64 1, .int .i64 2, .int .i64 9, .int .i64 0, .int .i64 0, .bool false, .int .i64 0, .int .i64 0, .int .i64 0, .int .i64 0, .slice none 0 0, .int .i64 0, .int .i64 0, .slice none 0 0, .slice none 0 0, .int .i64 0, .int .i64 0, .int .i64 0, .int .i64 0, .int .i64 0, .slice none 0 0, .slice none 0 0, .slice none 0 0]) (by kernel_rfl) fun a hm => v_alloc hm rfl ti29 hS fun w_1 g_2 hS' a hm => ?_
 replace hS : Sep w0 w_1 [_, Mem.one g_2 (.cells ([.int .i64 0, .int .i64 0, .int .i64 0, .int .i64 0, .int .i64 0, .int .i64 0, .bool false, .int .i64 0, .int .i64 0, .int .i64 0, .int .i64 0, .slice none 0 0, .int .i64 0, .int .i64 0, .slice none 0 0, .slice none 0 0, .int .i64 0, .int .i64 0, .int .i64 0, .int .i64 0, .int .i64 0, .slice none 0 0, .slice none 0 0, .slice none 0 0] : List Value).toArray 29 (0, 0))] Z := hS'
 clear hS'
 obtain ⟨w_3, hs', hS'⟩ := hS.store (P := Try.prog) (p := 1) (o := 0) (t := 29) (v := .agg ([.int .i64 1, .int .i64 1, .int .i64 2, .int .i64 9, .int .i64 0, .int .i64 0, .bool false, .int .i64 0, .int .i64 0, .int .i64 0, .int .i64 0, .slice none 0 0, .int .i64 0, .int .i64 0, .slice none 0 0, .slice none 0 0, .int .i64 0, .int .i64 0, .int .i64 0, .int .i64 0, .int .i64 0, .slice none 0 0, .slice none 0 0, .slice none 0 0] : List Value).toArray) (vs := [.int .i64 1, .int .i64 1, .int .i64 2, .int .i64 9, .int .i64 0, .int .i64 0, .bool false, .int .i64 0, .int .i64 0, .int .i64 0, .int .i64 0, .slice none 0 0, .int .i64 0, .int .i64 0, .slice none 0 0, .slice none 0 0, .int .i64 0, .int .i64 0, .int .i64 0, .int .i64 0, .int .i64 0, .slice none 0 0, .slice none 0 0, .slice none 0 0]) rfl ti29 rfl rfl rfl (by intro u hu; simp only [List.mem_cons, List.not_mem_nil, or_false] at hu; rcases hu with rfl | rfl | rfl | rfl | rfl | rfl | rfl | rfl | rfl | rfl | rfl | rfl | rfl | rfl | rfl | rfl | rfl | rfl | rfl | rfl | rfl | rfl | rfl | rfl <;> rfl)
 refine s_store hm rfl rfl hs' ?_
 replace hS : Sep w0 w_3 [_, Mem.one g_2 (.cells ([.int .i64 1, .int .i64 1, .int .i64 2, .int .i64 9, _, _, _, _, _, _, _, _, _, _, _, _, _, _, _, _, _, _, _, _] : List Value).toArray 29 (0, 0))] Z := hS'
 clear hs' hS'
 refine wpList_nil ?_
 replace hm : Fr 45 a [(0, _), (1, .pointer (some ⟨g_2, 0, none⟩))] := hm.keep [0, 1]
 refine x_then_n <| wp_seq <| wp_region_lit <| s_load hm rfl rfl (hS.load_agg (p := 1) (us := [.int .i64 1, .int .i64 1, .int .i64 2, .int .i64 9, .int .i64 0, .int .i64 0, .bool false, .int .i64 0, .int .i64 0, .int .i64 0, .int .i64 0, .slice none 0 0, .int .i64 0, .int .i64 0, .slice none 0 0, .slice none 0 0, .int .i64 0, .int .i64 0, .int .i64 0, .int .i64 0, .int .i64 0, .slice none 0 0, .slice none 0 0, .slice none 0 0]) rfl Try.underlying29 rfl ti29 rfl rfl) fun a hm => ?_
 obtain ⟨t_4, et_4, H⟩ := Option.bind_eq_some_iff.1 H
 refine s_call hm rfl Try.call19 rfl (fram_Wrap.calls K (⟨1, 1, 2, 9, 0, 0, false, 0, 0, 0, 0, ([] : List UInt8), 0, 0, ([] : List Int), ([] : List Int), 0, (⟨0, 0, (⟨0, 0, ([] : List UInt8), ([] : List UInt8), ([] : List UInt8)⟩ : api_Cmd)⟩ : api_Entry)⟩ : api_Msg) _ _ _ _ _ _ t_4 w0 _ _ _ (Mem.le.refl _) (hS.enter [] (by decide)) (Rd.nil _ _) (Rd.nil _ _) (Rd.nil _ _) (Rd.nil _ _) (Rd.nil _ _) (Rd.nil _ _) et_4) ?_
 rintro v_8 w_5 ⟨_, N_6, M_10, rfl, hS', hr_9⟩
 intro a hm
 obtain ⟨N_7, hS'', le_7, ln_7⟩ := hS.call [] (by decide) rfl (l' := []) (ow := [M_10]) rfl hS'
 replace hS : Sep w0 w_5 [N_7, _, M_10] Z := hS''
 clear hS' hS''
 refine s_assign hm rfl rfl fun a hm => wpList_nil ?_
 replace hm : Fr 45 a [(0, _), (1, _), (2, v_8)] := hm.keep [0, 1, 2]
 refine x_then_n <| wp_seq <| wp_region_lit <| s_move hm rfl rfl fun a hm => ?_
 obtain ⟨t_12, et_12, H⟩ := Option.bind_eq_some_iff.1 H
 refine s_call hm rfl Try.call20 rfl (fram_Open.calls K t_4 _ t_12 w0 _ _ _ (Mem.le.refl _) (hS.enter [] (by decide)) (hr_9.rd (hS.own_zed [] 1 (by decide)) (Mem.no_le _)) et_12) ?_
 rintro _ w_13 ⟨v_16, v_20, v_24, v_28, v_32, v_36, N_14, M_18, M_22, M_26, M_30, M_34, M_38, rfl, hS', hr_17, hr_21, hr_25, hr_29, hr_33, hr_37⟩
 intro a hm
 obtain ⟨N_15, hS'', le_15, ln_15⟩ := hS.call [] (by decide) rfl (l' := []) (ow := [M_18, M_22, M_26, M_30, M_34, M_38]) rfl hS'
 replace hS : Sep w0 w_13 [N_15, _, _, M_18, M_22, M_26, M_30, M_34, M_38] Z := hS''
 clear hS' hS''
 refine s_move hm rfl rfl fun a hm => s_extract hm rfl rfl rfl fun a hm => s_extract hm rfl rfl rfl fun a hm => v_alloc hm rfl ti29 hS fun w_40 g_41 hS' a hm => ?_
 replace hS : Sep w0 w_40 [_, _, _, _, _, _, _, _, _, Mem.one g_41 (.cells ([.int .i64 0, .int .i64 0, .int .i64 0, .int .i64 0, .int .i64 0, .int .i64 0, .bool false, .int .i64 0, .int .i64 0, .int .i64 0, .int .i64 0, .slice none 0 0, .int .i64 0, .int .i64 0, .slice none 0 0, .slice none 0 0, .int .i64 0, .int .i64 0, .int .i64 0, .int .i64 0, .int .i64 0, .slice none 0 0, .slice none 0 0, .slice none 0 0] : List Value).toArray 29 (0, 0))] Z := hS'
 clear hS'
 obtain ⟨w_42, hs', hS'⟩ := hS.store (P := Try.prog) (p := 9) (o := 0) (t := 29) (v := .agg ([.int .i64 t_12.1.Kind, .int .i64 t_12.1.From, .int .i64 t_12.1.To, .int .i64 t_12.1.View, .int .i64 t_12.1.Inst, .int .i64 t_12.1.Len, .bool t_12.1.Has, .int .i64 t_12.1.Members, .int .i64 t_12.1.Source, .int .i64 t_12.1.At, .int .i64 t_12.1.Total, v_16, .int .i64 t_12.1.Hop, .int .i64 t_12.1.Seq, v_20, v_24, .int .i64 t_12.1.Index, .int .i64 t_12.1.Entry.Sess, .int .i64 t_12.1.Entry.Seq, .int .i64 t_12.1.Entry.Cmd.Kind, .int .i64 t_12.1.Entry.Cmd.Who, v_28, v_32, v_36] : List Value).toArray) (vs := [.int .i64 t_12.1.Kind, .int .i64 t_12.1.From, .int .i64 t_12.1.To, .int .i64 t_12.1.View, .int .i64 t_12.1.Inst, .int .i64 t_12.1.Len, .bool t_12.1.Has, .int .i64 t_12.1.Members, .int .i64 t_12.1.Source, .int .i64 t_12.1.At, .int .i64 t_12.1.Total, v_16, .int .i64 t_12.1.Hop, .int .i64 t_12.1.Seq, v_20, v_24, .int .i64 t_12.1.Index, .int .i64 t_12.1.Entry.Sess, .int .i64 t_12.1.Entry.Seq, .int .i64 t_12.1.Entry.Cmd.Kind, .int .i64 t_12.1.Entry.Cmd.Who, v_28, v_32, v_36]) rfl ti29 rfl rfl rfl (by intro u hu; simp only [List.mem_cons, List.not_mem_nil, or_false] at hu; rcases hu with rfl | rfl | rfl | rfl | rfl | rfl | rfl | rfl | rfl | rfl | rfl | rfl | rfl | rfl | rfl | rfl | rfl | rfl | rfl | rfl | rfl | rfl | rfl | rfl <;> first | rfl | exact hr_17.one | exact hr_21.one | exact hr_25.one | exact hr_29.one | exact hr_33.one | exact hr_37.one)
 refine s_store hm rfl rfl hs' ?_
 replace hS : Sep w0 w_42 [_, _, _, _, _, _, _, _, _, Mem.one g_41 (.cells ([.int .i64 t_12.1.Kind, .int .i64 t_12.1.From, .int .i64 t_12.1.To, .int .i64 t_12.1.View, .int .i64 t_12.1.Inst, .int .i64 t_12.1.Len, .bool t_12.1.Has, .int .i64 t_12.1.Members, .int .i64 t_12.1.Source, .int .i64 t_12.1.At, .int .i64 t_12.1.Total, v_16, .int .i64 t_12.1.Hop, .int .i64 t_12.1.Seq, v_20, v_24, .int .i64 t_12.1.Index, .int .i64 t_12.1.Entry.Sess, .int .i64 t_12.1.Entry.Seq, .int .i64 t_12.1.Entry.Cmd.Kind, .int .i64 t_12.1.Entry.Cmd.Who, v_28, v_32, v_36] : List Value).toArray 29 (0, 0))] Z := hS'
 clear hs' hS'
 refine s_assign hm rfl rfl fun a hm => wpList_nil ?_
 replace hm : Fr 45 a [(0, _), (1, _), (2, _), (3, .pointer (some ⟨g_41, 0, none⟩)), (4, .bool t_12.2)] := hm.keep [0, 1, 2, 3, 4]
 refine x_then_n <| wp_seq <| wp_region_lit <| s_move hm rfl rfl fun a hm => s_move hm rfl rfl fun a hm => s_lenO hm rfl Try.underlying23 rfl hr_9 fun a hm => s_div (r := w64 (Int.tdiv (t_4.length : Int) 2)) hm rfl rfl rfl (by decide) (.inl ⟨rfl, rfl⟩) fun a hm => ?_
 obtain ⟨N_43, hS', le_43, lo_43⟩ := hS.freeze 1 rfl
 replace hS : Sep w0 w_42 [N_43, _, Mem.no, _, _, _, _, _, _, _] Z := hS'
 clear hS'
 obtain ⟨t_44, et_44, H⟩ := Option.bind_eq_some_iff.1 H
 refine s_slice hm rfl Try.underlying23 ti5 rfl rfl (hr_9.rd lo_43 (Mem.no_le _)) rfl rfl et_44 fun v_45 hr_46 a hm => ?_
 obtain ⟨t_47, et_47, H⟩ := Option.bind_eq_some_iff.1 H
 refine s_call hm rfl Try.call20 rfl (fram_Open.calls K t_44 _ t_47 w0 _ _ _ (Mem.le.refl _) (hS.enter [] (by decide)) (hr_46.mono ((Mem.le.refl _).trans (hS.new_zed []))) et_47) ?_
 rintro _ w_48 ⟨v_51, v_55, v_59, v_63, v_67, v_71, N_49, M_53, M_57, M_61, M_65, M_69, M_73, rfl, hS', hr_52, hr_56, hr_60, hr_64, hr_68, hr_72⟩
 intro a hm
 obtain ⟨N_50, hS'', le_50, ln_50⟩ := hS.call [] (by decide) rfl (l' := []) (ow := [M_53, M_57, M_61, M_65, M_69, M_73]) rfl hS'
 replace hS : Sep w0 w_48 [N_50, _, _, _, _, _, _, _, _, _, M_53, M_57, M_61, M_65, M_69, M_73] Z := hS''
 clear hS' hS''
 refine s_move hm rfl rfl fun a hm => s_extract hm rfl rfl rfl fun a hm => s_extract hm rfl rfl rfl fun a hm => v_alloc hm rfl ti29 hS fun w_75 g_76 hS' a hm => ?_
 replace hS : Sep w0 w_75 [_, _, _, _, _, _, _, _, _, _, _, _, _, _, _, _, Mem.one g_76 (.cells ([.int .i64 0, .int .i64 0, .int .i64 0, .int .i64 0, .int .i64 0, .int .i64 0, .bool false, .int .i64 0, .int .i64 0, .int .i64 0, .int .i64 0, .slice none 0 0, .int .i64 0, .int .i64 0, .slice none 0 0, .slice none 0 0, .int .i64 0, .int .i64 0, .int .i64 0, .int .i64 0, .int .i64 0, .slice none 0 0, .slice none 0 0, .slice none 0 0] : List Value).toArray 29 (0, 0))] Z := hS'
 clear hS'
 obtain ⟨w_77, hs', hS'⟩ := hS.store (P := Try.prog) (p := 16) (o := 0) (t := 29) (v := .agg ([.int .i64 t_47.1.Kind, .int .i64 t_47.1.From, .int .i64 t_47.1.To, .int .i64 t_47.1.View, .int .i64 t_47.1.Inst, .int .i64 t_47.1.Len, .bool t_47.1.Has, .int .i64 t_47.1.Members, .int .i64 t_47.1.Source, .int .i64 t_47.1.At, .int .i64 t_47.1.Total, v_51, .int .i64 t_47.1.Hop, .int .i64 t_47.1.Seq, v_55, v_59, .int .i64 t_47.1.Index, .int .i64 t_47.1.Entry.Sess, .int .i64 t_47.1.Entry.Seq, .int .i64 t_47.1.Entry.Cmd.Kind, .int .i64 t_47.1.Entry.Cmd.Who, v_63, v_67, v_71] : List Value).toArray) (vs := [.int .i64 t_47.1.Kind, .int .i64 t_47.1.From, .int .i64 t_47.1.To, .int .i64 t_47.1.View, .int .i64 t_47.1.Inst, .int .i64 t_47.1.Len, .bool t_47.1.Has, .int .i64 t_47.1.Members, .int .i64 t_47.1.Source, .int .i64 t_47.1.At, .int .i64 t_47.1.Total, v_51, .int .i64 t_47.1.Hop, .int .i64 t_47.1.Seq, v_55, v_59, .int .i64 t_47.1.Index, .int .i64 t_47.1.Entry.Sess, .int .i64 t_47.1.Entry.Seq, .int .i64 t_47.1.Entry.Cmd.Kind, .int .i64 t_47.1.Entry.Cmd.Who, v_63, v_67, v_71]) rfl ti29 rfl rfl rfl (by intro u hu; simp only [List.mem_cons, List.not_mem_nil, or_false] at hu; rcases hu with rfl | rfl | rfl | rfl | rfl | rfl | rfl | rfl | rfl | rfl | rfl | rfl | rfl | rfl | rfl | rfl | rfl | rfl | rfl | rfl | rfl | rfl | rfl | rfl <;> first | rfl | exact hr_52.one | exact hr_56.one | exact hr_60.one | exact hr_64.one | exact hr_68.one | exact hr_72.one)
 refine s_store hm rfl rfl hs' ?_
 replace hS : Sep w0 w_77 [_, _, _, _, _, _, _, _, _, _, _, _, _, _, _, _, Mem.one g_76 (.cells ([.int .i64 t_47.1.Kind, .int .i64 t_47.1.From, .int .i64 t_47.1.To, .int .i64 t_47.1.View, .int .i64 t_47.1.Inst, .int .i64 t_47.1.Len, .bool t_47.1.Has, .int .i64 t_47.1.Members, .int .i64 t_47.1.Source, .int .i64 t_47.1.At, .int .i64 t_47.1.Total, v_51, .int .i64 t_47.1.Hop, .int .i64 t_47.1.Seq, v_55, v_59, .int .i64 t_47.1.Index, .int .i64 t_47.1.Entry.Sess, .int .i64 t_47.1.Entry.Seq, .int .i64 t_47.1.Entry.Cmd.Kind, .int .i64 t_47.1.Entry.Cmd.Who, v_63, v_67, v_71] : List Value).toArray 29 (0, 0))] Z := hS'
 clear hs' hS'
 refine s_assign hm rfl rfl fun a hm => wpList_nil ?_
 replace hm : Fr 45 a [(0, _), (1, _), (2, _), (3, _), (4, _), (6, .bool t_47.2)] := hm.keep [0, 1, 2, 3, 4, 6]
 refine x_then_n <| c_seq fun KJ_78 hKJ_78 => wp_region_lit <| s_move hm rfl rfl fun a hm => s_len hm rfl Try.underlying23 rfl (hr_9.rd lo_43 (Mem.no_le _)) fun a hm => s_cmp (b := ((t_4.length : Int) == 8)) hm rfl rfl rfl (.inl ⟨rfl, rfl⟩) fun a hm => s_move hm rfl rfl fun a hm => ?_
 by_cases hc_79 : (t_4.length : Int) = 8
 ·rw [if_pos hc_79] at H
  refine s_on hm rfl rfl (beq_iff_eq.2 hc_79) <| s_move hm rfl rfl fun a hm => s_pick_t hm rfl rfl (beq_iff_eq.2 hc_79) rfl fun a hm => s_move hm rfl rfl fun a hm => ?_
  by_cases hc_80 : t_12.2 = true
  ·rw [if_pos hc_80] at H
   refine s_on hm rfl rfl hc_80 <| s_load hm rfl rfl (hS.load_agg (p := 9) (us := [.int .i64 t_12.1.Kind, .int .i64 t_12.1.From, .int .i64 t_12.1.To, .int .i64 t_12.1.View, .int .i64 t_12.1.Inst, .int .i64 t_12.1.Len, .bool t_12.1.Has, .int .i64 t_12.1.Members, .int .i64 t_12.1.Source, .int .i64 t_12.1.At, .int .i64 t_12.1.Total, v_16, .int .i64 t_12.1.Hop, .int .i64 t_12.1.Seq, v_20, v_24, .int .i64 t_12.1.Index, .int .i64 t_12.1.Entry.Sess, .int .i64 t_12.1.Entry.Seq, .int .i64 t_12.1.Entry.Cmd.Kind, .int .i64 t_12.1.Entry.Cmd.Who, v_28, v_32, v_36]) rfl Try.underlying29 rfl ti29 rfl rfl) fun a hm => s_on hm rfl rfl hc_80 <| s_load hm rfl rfl (hS.load_agg (p := 1) (us := [.int .i64 1, .int .i64 1, .int .i64 2, .int .i64 9, .int .i64 0, .int .i64 0, .bool false, .int .i64 0, .int .i64 0, .int .i64 0, .int .i64 0, .slice none 0 0, .int .i64 0, .int .i64 0, .slice none 0 0, .slice none 0 0, .int .i64 0, .int .i64 0, .int .i64 0, .int .i64 0, .int .i64 0, .slice none 0 0, .slice none 0 0, .slice none 0 0]) rfl Try.underlying29 rfl ti29 rfl rfl) fun a hm => s_on hm rfl rfl hc_80 ?_
   obtain ⟨t_81, et_81, H⟩ := Option.bind_eq_some_iff.1 H
   refine s_call hm rfl Try.call15 rfl (hocketref11_Same.calls K t_12.1 _ _ _ _ _ _ (⟨1, 1, 2, 9, 0, 0, false, 0, 0, 0, 0, ([] : List UInt8), 0, 0, ([] : List Int), ([] : List Int), 0, (⟨0, 0, (⟨0, 0, ([] : List UInt8), ([] : List UInt8), ([] : List UInt8)⟩ : api_Cmd)⟩ : api_Entry)⟩ : api_Msg) _ _ _ _ _ _ t_81 w0 _ _ _ (Mem.le.refl _) (hS.enter [] (by decide)) (hr_17.rd (hS.own_zed [] 2 (by decide)) (Mem.no_le _)) (hr_21.rd (hS.own_zed [] 3 (by decide)) (Mem.no_le _)) (hr_25.rd (hS.own_zed [] 4 (by decide)) (Mem.no_le _)) (hr_29.rd (hS.own_zed [] 5 (by decide)) (Mem.no_le _)) (hr_33.rd (hS.own_zed [] 6 (by decide)) (Mem.no_le _)) (hr_37.rd (hS.own_zed [] 7 (by decide)) (Mem.no_le _)) (Rd.nil _ _) (Rd.nil _ _) (Rd.nil _ _) (Rd.nil _ _) (Rd.nil _ _) (Rd.nil _ _) et_81) ?_
   rintro _ w_82 ⟨N_83, rfl, hS'⟩
   intro a hm
   obtain ⟨N_84, hS'', le_84, ln_84⟩ := hS.call [] (by decide) rfl (l' := []) (ow := []) rfl hS'
   replace hS : Sep w0 w_82 [N_84, _, _, _, _, _, _, _, _, _, _, _, _, _, _, _, _] Z := hS''
   clear hS' hS''
   refine s_pick_t hm rfl rfl hc_80 rfl fun a hm => s_move hm rfl rfl fun a hm => ?_
   by_cases hc_85 : t_81 = true
   ·rw [if_pos hc_85] at H
    refine s_on hm rfl rfl hc_85 <| s_move hm rfl rfl fun a hm => s_on hm rfl rfl hc_85 <| s_not hm rfl rfl fun a hm => s_pick_t hm rfl rfl hc_85 rfl fun a hm => s_move hm rfl rfl fun a hm => ?_
    by_cases hc_86 : t_47.2 = true
    ·rw [if_pos hc_86] at H
     cases H
    ·rw [if_neg hc_86] at H
     refine s_on hm rfl rfl (nt (Bool.eq_false_iff.2 hc_86)) <| s_build hm rfl ti29 pl29 rfl .nil (cs := [.int .i64 0, .int .i64 0, .int .i64 0, .int .i64 0, .int .i64 0, .int .i64 0, .bool false, .int .i64 0, .int .i64 0, .int .i64 0, .int .i64 0, .slice none 0 0, .int .i64 0, .int .i64 0, .slice none 0 0, .slice none 0 0, .int .i64 0, .int .i64 0, .int .i64 0, .int .i64 0, .int .i64 0, .slice none 0 0, .slice none 0 0, .slice none 0 0]) (by kernel_rfl) fun a hm => s_on hm rfl rfl (nt (Bool.eq_false_iff.2 hc_86)) ?_
     obtain ⟨t_87, et_87, H⟩ := Option.bind_eq_some_iff.1 H
     refine s_call hm rfl Try.call19 rfl (fram_Wrap.calls K (⟨0, 0, 0, 0, 0, 0, false, 0, 0, 0, 0, ([] : List UInt8), 0, 0, ([] : List Int), ([] : List Int), 0, (⟨0, 0, (⟨0, 0, ([] : List UInt8), ([] : List UInt8), ([] : List UInt8)⟩ : api_Cmd)⟩ : api_Entry)⟩ : api_Msg) _ _ _ _ _ _ t_87 w0 _ _ _ (Mem.le.refl _) (hS.enter [] (by decide)) (Rd.nil _ _) (Rd.nil _ _) (Rd.nil _ _) (Rd.nil _ _) (Rd.nil _ _) (Rd.nil _ _) et_87) ?_
     rintro v_91 w_88 ⟨_, N_89, M_93, rfl, hS', hr_92⟩
     intro a hm
     obtain ⟨N_90, hS'', le_90, ln_90⟩ := hS.call [] (by decide) rfl (l' := []) (ow := [M_93]) rfl hS'
     replace hS : Sep w0 w_88 [N_90, _, _, _, _, _, _, _, _, _, _, _, _, _, _, _, _, M_93] Z := hS''
     clear hS' hS''
     refine s_on hm rfl rfl (nt (Bool.eq_false_iff.2 hc_86)) <| s_lenO hm rfl Try.underlying23 rfl hr_92 fun a hm => s_on hm rfl rfl (nt (Bool.eq_false_iff.2 hc_86)) <| s_cmp (b := ((t_87.length : Int) == 0)) hm rfl rfl rfl (.inl ⟨rfl, rfl⟩) fun a hm => s_pick_t hm rfl rfl (nt (Bool.eq_false_iff.2 hc_86)) rfl fun a hm => s_assign hm rfl rfl fun a hm => wpList_nil ?_
     replace hm : Fr 45 a [(0, .bool ((t_87.length : Int) == 0))] := hm.keep [0]
     refine x_then_n (hKJ_78 _ _ ?_)
     refine wp_ret ?_
     by_cases hc_95 : (t_87.length : Int) = 0
     ·rw [if_pos hc_95] at H
      exact f_ret hm (rs := [.tmp 0]) rfl (.tmp rfl .nil) ⟨_, rfl, N_90, (by rw [(beq_iff_eq.2 hc_95)]; rfl), (Sep.sel hS [0] (by decide))⟩
     ·rw [if_neg hc_95] at H
      cases H
   ·rw [if_neg hc_85] at H
    cases H
  ·rw [if_neg hc_80] at H
   cases H
 ·rw [if_neg hc_79] at H
  cases H

set_option maxHeartbeats 4000000 in
set_option maxRecDepth 20000 in
theorem hocketlaw12_FramBursts.calls (K : Nat) (x0 : Int) (x1 : Int) (x2 : Int) (x3 : Int) (r : Unit) (w0 w : World) (Z A : Mem) (hA : A.le Z) (hS : Sep w0 w [] Z)
    (H : hocketlaw12_FramBursts.f K x0 x1 x2 x3 = some r) :
    Calls Try.prog 8 [.int .i64 x0, .int .i64 x1, .int .i64 x2, .int .i64 x3].toArray w (Ret fun v w' => ∃ (N : Mem), v = .bool true ∧ Sep w0 w' [N] Z) := by
 unfold hocketlaw12_FramBursts.f at H
 refine f_enter _ Try.func8 rfl Try.ntmps8 rfl fun a hm => ?_
 replace hm : Fr 79 a [(0, .int .i64 x0), (1, .int .i64 x1), (2, .int .i64 x2), (3, .int .i64 x3)] := hm
 replace hS := hS.start
 replace hS : Sep w0 w [_] Z := hS
 refine wp_seq <| wp_region_lit <| s_assign hm rfl rfl fun a hm => wpList_nil ?_
 replace hm : Fr 79 a [(0, _), (1, _), (2, _), (3, _), (8, .bool false)] := hm.keep [0, 1, 2, 3, 8]
 refine x_then_n <| wp_seq <| wp_region_lit <| s_move hm rfl rfl fun a hm => s_move hm rfl rfl fun a hm => ?_
 obtain ⟨t_1, et_1, H⟩ := Option.bind_eq_some_iff.1 H
 refine s_call hm rfl Try.call14 rfl (hocketlaw11_Msg.calls K x0 x1 t_1 w0 _ _ _ (Mem.le.refl _) (hS.enter [] (by decide))  et_1) ?_
 rintro _ w_2 ⟨v_5, v_9, v_13, v_17, v_19, v_21, N_3, M_7, M_11, M_15, rfl, hS', hr_6, hr_10, hr_14, hr_18, hr_20, hr_22⟩
 intro a hm
 obtain ⟨N_4, hS'', le_4, ln_4⟩ := hS.call [] (by decide) rfl (l' := []) (ow := [M_7, M_11, M_15]) rfl hS'
 replace hS : Sep w0 w_2 [N_4, M_7, M_11, M_15] Z := hS''
 clear hS' hS''
 obtain ⟨t_23, et_23, H⟩ := Option.bind_eq_some_iff.1 H
 refine s_call hm rfl Try.call19 rfl (fram_Wrap.calls K t_1 _ _ _ _ _ _ t_23 w0 _ _ _ (Mem.le.refl _) (hS.enter [] (by decide)) (hr_6.rd (hS.own_zed [] 0 (by decide)) (Mem.no_le _)) (hr_10.rd (hS.own_zed [] 1 (by decide)) (Mem.no_le _)) (hr_14.rd (hS.own_zed [] 2 (by decide)) (Mem.no_le _)) ((hr_18.mono ln_4).mono ((Mem.le.refl _).trans (hS.new_zed []))) ((hr_20.mono ln_4).mono ((Mem.le.refl _).trans (hS.new_zed []))) ((hr_22.mono ln_4).mono ((Mem.le.refl _).trans (hS.new_zed []))) et_23) ?_
 rintro v_27 w_24 ⟨_, N_25, M_29, rfl, hS', hr_28⟩
 intro a hm
 obtain ⟨N_26, hS'', le_26, ln_26⟩ := hS.call [] (by decide) rfl (l' := []) (ow := [M_29]) rfl hS'
 replace hS : Sep w0 w_24 [N_26, _, _, _, M_29] Z := hS''
 clear hS' hS''
 refine s_assign hm rfl rfl fun a hm => wpList_nil ?_
 replace hm : Fr 79 a [(2, _), (3, _), (8, _), (9, v_27)] := hm.keep [2, 3, 8, 9]
 refine x_then_n <| c_seq fun KJ_31 hKJ_31 => wp_seq <| wp_region_lit <| s_move hm rfl rfl fun a hm => s_lenO hm rfl Try.underlying23 rfl hr_28 fun a hm => s_cmp (b := decide ((t_23.length : Int) < 8)) hm rfl rfl rfl (.inr (.inr (.inl ⟨rfl, rfl⟩))) fun a hm => wpList_nil ?_
 replace hm : Fr 79 a [(2, _), (3, _), (8, _), (9, _), (23, .bool (decide ((t_23.length : Int) < 8)))] := hm.keep [2, 3, 8, 9, 23]
 refine x_then_n ?_
 by_cases hc_32 : (t_23.length : Int) < 8
 ·rw [if_pos hc_32] at H
  cases H
 ·rw [if_neg hc_32] at H
  refine c_cond_f hm rfl (decide_eq_false hc_32) <| wp_skip <| x_then_n (hKJ_31 _ _ ?_)
  refine wp_seq <| wp_region_lit <| s_move hm rfl rfl fun a hm => s_bits (i := x2) (j := 65535) (r := band .i64 x2 65535) hm rfl rfl rfl (.inl ⟨rfl, rfl⟩) fun a hm => s_move hm rfl rfl fun a hm => s_lenO hm rfl Try.underlying23 rfl hr_28 fun a hm => s_arith (r := w64 ((t_23.length : Int) - 3)) hm rfl rfl rfl (.inr (.inl ⟨rfl, rfl⟩)) fun a hm => ?_
  obtain ⟨t_33, et_33, H⟩ := Option.bind_eq_some_iff.1 H
  refine s_div (r := t_33) hm rfl rfl rfl (rem_some et_33).1 (.inr ⟨rfl, (rem_some et_33).2⟩) fun a hm => s_assign hm rfl rfl fun a hm => wpList_nil ?_
  replace hm : Fr 79 a [(3, _), (8, _), (9, _), (10, .int .i64 t_33)] := hm.keep [3, 8, 9, 10]
  refine x_then_n <| c_seq fun KJ_34 hKJ_34 => c_seq fun KJ_35 hKJ_35 => ?_
  have hJ_j_39 : ∀ (x_37 : Bool), hocketlaw12_FramBursts.J1 K t_23 x3 t_33 x_37 = some r → ∀ (a : Act) (w_38 : World), (∃ (N_36 : Mem), Fr 79 a [(3, .int .i64 x3), (8, .bool false), (9, v_27), (10, .int .i64 t_33), (35, .bool x_37)] ∧ Sep w0 w_38 [N_36, Mem.no, Mem.no, Mem.no, M_29] Z ∧ N_26.le N_36) → KJ_35 a w_38 := by
   clear H hm hS a
   rintro x_37 H a w_38 ⟨N_36, hm, hS, le_36⟩
   unfold hocketlaw12_FramBursts.J1 at H
   refine hKJ_35 _ _ ?_
   have hJ_j_43 : ∀ (x_41 : Int), hocketlaw12_FramBursts.J2 K t_23 x3 x_41 = some r → ∀ (a : Act) (w_42 : World), (∃ (N_40 : Mem), Fr 79 a [(3, .int .i64 x3), (8, .bool false), (9, v_27), (10, .int .i64 x_41)] ∧ Sep w0 w_42 [N_40, Mem.no, Mem.no, Mem.no, M_29] Z ∧ N_36.le N_40) → KJ_34 a w_42 := by
    clear H hm hS a
    rintro x_41 H a w_42 ⟨N_40, hm, hS, le_40⟩
    unfold hocketlaw12_FramBursts.J2 at H
    refine hKJ_34 _ _ <| wp_seq <| wp_region_lit ?_
    have hq_48 : Reps Kd.u8 Mem.no ([] : List UInt8) _ := (Reps.nil Kd.u8 _)
    refine s_buildSlice hm rfl Try.underlying23 ti5 rfl rfl rfl .nil rfl rfl rfl hS hq_48 rfl fun w_44 v_45 M_46 hS' ho_47 a hm => ?_
    replace hS : Sep w0 w_44 [_, _, _, _, _, M_46] Z := hS'
    clear hS' hq_48
    refine s_move hm rfl rfl fun a hm => ?_
    obtain ⟨t_50, et_50, H⟩ := Option.bind_eq_some_iff.1 H
    refine s_append (J := Mem.no) (I' := Mem.no) (p := 5) 140737488355328 hm rfl rfl rfl Try.underlying23 ti5 rfl rfl rfl rfl hS rfl ho_47 (Src.flat flat_u8 (hr_28.src (hS.own 4))) (Mem.le.refl _) (Mem.le.refl _) et_50 fun w_51 v_52 M_53 hS' ho_54 a hm => ?_
    replace hS : Sep w0 w_51 [_, _, _, _, _, M_53] Z := hS'
    clear hS'
    refine s_assign hm rfl rfl fun a hm => wpList_nil ?_
    replace hm : Fr 79 a [(3, _), (8, _), (10, _), (11, v_52)] := hm.keep [3, 8, 10, 11]
    refine x_then_n <| wp_seq <| wp_region_lit <| s_assign hm rfl rfl fun a hm => wpList_nil ?_
    replace hm : Fr 79 a [(3, _), (8, _), (10, _), (11, _), (12, .bool false)] := hm.keep [3, 8, 10, 11, 12]
    refine x_then_n <| c_seq fun KJ_56 hKJ_56 => wp_seq <| wp_region_lit <| s_assign hm rfl rfl fun a hm => wpList_nil ?_
    replace hm : Fr 79 a [(3, _), (8, _), (10, _), (11, _), (12, _), (13, .int .i64 0)] := hm.keep [3, 8, 10, 11, 12, 13]
    refine x_then_n ?_
    have hJ_j_65 : ∀ (x_58 : List UInt8), ∀ (x_63 : Bool), hocketlaw12_FramBursts.J3 K x_58 x_63 = some r → ∀ (a : Act) (w_64 : World), (∃ (v_61 : Value) (N_57 : Mem) (M_59 : Mem), Fr 79 a [(8, .bool false), (11, v_61), (12, .bool x_63)] ∧ Sep w0 w_64 [N_57, Mem.no, Mem.no, Mem.no, Mem.no, M_59] Z ∧ N_40.le N_57 ∧ Own Kd.u8 5 M_59 Mem.no v_61 x_58) → KJ_56 a w_64 := by
     clear H hm hS a
     rintro x_58 x_63 H a w_64 ⟨v_61, N_57, M_59, hm, hS, le_57, ho_62⟩
     unfold hocketlaw12_FramBursts.J3 at H
     refine hKJ_56 _ _ <| wp_seq <| wp_region_lit <| s_move hm rfl rfl fun a hm => ?_
     obtain ⟨t_66, et_66, H⟩ := Option.bind_eq_some_iff.1 H
     refine s_call hm rfl Try.call20 rfl (fram_Open.calls K x_58 _ t_66 w0 _ _ _ (Mem.le.refl _) (hS.enter [] (by decide)) (ho_62.rd (hS.own_zed [] 4 (by decide)) (Mem.no_le _)) et_66) ?_
     rintro _ w_67 ⟨v_70, v_74, v_78, v_82, v_86, v_90, N_68, M_72, M_76, M_80, M_84, M_88, M_92, rfl, hS', hr_71, hr_75, hr_79, hr_83, hr_87, hr_91⟩
     intro a hm
     obtain ⟨N_69, hS'', le_69, ln_69⟩ := hS.call [] (by decide) rfl (l' := []) (ow := [M_72, M_76, M_80, M_84, M_88, M_92]) rfl hS'
     replace hS : Sep w0 w_67 [N_69, _, _, _, _, _, M_72, M_76, M_80, M_84, M_88, M_92] Z := hS''
     clear hS' hS''
     refine s_move hm rfl rfl fun a hm => s_extract hm rfl rfl rfl fun a hm => s_extract hm rfl rfl rfl fun a hm => v_alloc hm rfl ti29 hS fun w_94 g_95 hS' a hm => ?_
     replace hS : Sep w0 w_94 [_, _, _, _, _, _, _, _, _, _, _, _, Mem.one g_95 (.cells ([.int .i64 0, .int .i64 0, .int .i64 0, .int .i64 0, .int .i64 0, .int .i64 0, .bool false, .int .i64 0, .int .i64 0, .int .i64 0, .int .i64 0, .slice none 0 0, .int .i64 0, .int .i64 0, .slice none 0 0, .slice none 0 0, .int .i64 0, .int .i64 0, .int .i64 0, .int .i64 0, .int .i64 0, .slice none 0 0, .slice none 0 0, .slice none 0 0] : List Value).toArray 29 (0, 0))] Z := hS'
     clear hS'
     obtain ⟨w_96, hs', hS'⟩ := hS.store (P := Try.prog) (p := 12) (o := 0) (t := 29) (v := .agg ([.int .i64 t_66.1.Kind, .int .i64 t_66.1.From, .int .i64 t_66.1.To, .int .i64 t_66.1.View, .int .i64 t_66.1.Inst, .int .i64 t_66.1.Len, .bool t_66.1.Has, .int .i64 t_66.1.Members, .int .i64 t_66.1.Source, .int .i64 t_66.1.At, .int .i64 t_66.1.Total, v_70, .int .i64 t_66.1.Hop, .int .i64 t_66.1.Seq, v_74, v_78, .int .i64 t_66.1.Index, .int .i64 t_66.1.Entry.Sess, .int .i64 t_66.1.Entry.Seq, .int .i64 t_66.1.Entry.Cmd.Kind, .int .i64 t_66.1.Entry.Cmd.Who, v_82, v_86, v_90] : List Value).toArray) (vs := [.int .i64 t_66.1.Kind, .int .i64 t_66.1.From, .int .i64 t_66.1.To, .int .i64 t_66.1.View, .int .i64 t_66.1.Inst, .int .i64 t_66.1.Len, .bool t_66.1.Has, .int .i64 t_66.1.Members, .int .i64 t_66.1.Source, .int .i64 t_66.1.At, .int .i64 t_66.1.Total, v_70, .int .i64 t_66.1.Hop, .int .i64 t_66.1.Seq, v_74, v_78, .int .i64 t_66.1.Index, .int .i64 t_66.1.Entry.Sess, .int .i64 t_66.1.Entry.Seq, .int .i64 t_66.1.Entry.Cmd.Kind, .int .i64 t_66.1.Entry.Cmd.Who, v_82, v_86, v_90]) rfl ti29 rfl rfl rfl (by intro u hu; simp only [List.mem_cons, List.not_mem_nil, or_false] at hu; rcases hu with rfl | rfl | rfl | rfl | rfl | rfl | rfl | rfl | rfl | rfl | rfl | rfl | rfl | rfl | rfl | rfl | rfl | rfl | rfl | rfl | rfl | rfl | rfl | rfl <;> first | rfl | exact hr_71.one | exact hr_75.one | exact hr_79.one | exact hr_83.one | exact hr_87.one | exact hr_91.one)
     refine s_store hm rfl rfl hs' ?_
     replace hS : Sep w0 w_96 [_, _, _, _, _, _, _, _, _, _, _, _, Mem.one g_95 (.cells ([.int .i64 t_66.1.Kind, .int .i64 t_66.1.From, .int .i64 t_66.1.To, .int .i64 t_66.1.View, .int .i64 t_66.1.Inst, .int .i64 t_66.1.Len, .bool t_66.1.Has, .int .i64 t_66.1.Members, .int .i64 t_66.1.Source, .int .i64 t_66.1.At, .int .i64 t_66.1.Total, v_70, .int .i64 t_66.1.Hop, .int .i64 t_66.1.Seq, v_74, v_78, .int .i64 t_66.1.Index, .int .i64 t_66.1.Entry.Sess, .int .i64 t_66.1.Entry.Seq, .int .i64 t_66.1.Entry.Cmd.Kind, .int .i64 t_66.1.Entry.Cmd.Who, v_82, v_86, v_90] : List Value).toArray 29 (0, 0))] Z := hS'
     clear hs' hS'
     refine s_assign hm rfl rfl fun a hm => wpList_nil ?_
     replace hm : Fr 79 a [(8, _), (12, _), (16, .bool t_66.2)] := hm.keep [8, 12, 16]
     refine x_then_n <| c_seq fun KJ_97 hKJ_97 => wp_region_lit <| s_move hm rfl rfl fun a hm => s_move hm rfl rfl fun a hm => s_not hm rfl rfl fun a hm => s_beq (b := (t_66.2 == (!x_63))) hm rfl Try.underlying4 rfl rfl (.inl ⟨rfl, rfl⟩) fun a hm => s_move hm rfl rfl fun a hm => ?_
     by_cases hc_98 : t_66.2 = (!x_63)
     ·rw [if_pos hc_98] at H
      refine s_on hm rfl rfl (beq_iff_eq.2 hc_98) ?_
      obtain ⟨t_99, et_99, H⟩ := Option.bind_eq_some_iff.1 H
      refine s_call hm rfl Try.call21 rfl (hocketlaw12_awake.calls K  t_99 w0 _ _ _ (Mem.le.refl _) (hS.enter [] (by decide))  et_99) ?_
      rintro _ w_100 ⟨N_101, rfl, hS'⟩
      intro a hm
      obtain ⟨N_102, hS'', le_102, ln_102⟩ := hS.call [] (by decide) rfl (l' := []) (ow := []) rfl hS'
      replace hS : Sep w0 w_100 [N_102, _, _, _, _, _, _, _, _, _, _, _, _] Z := hS''
      clear hS' hS''
      refine s_pick_t hm rfl rfl (beq_iff_eq.2 hc_98) rfl fun a hm => s_assign hm rfl rfl fun a hm => wpList_nil ?_
      replace hm : Fr 79 a [(8, .bool true)] := hm.keep [8]
      refine x_then_n (hKJ_97 _ _ ?_)
      refine wp_ret ?_
      exact f_ret hm (rs := [.tmp 8]) rfl (.tmp rfl .nil) ⟨_, rfl, N_102, rfl, (Sep.sel hS [0] (by decide))⟩
     ·rw [if_neg hc_98] at H
      cases H
    clear hKJ_56
    replace hS : Sep w0 w_51 [_, _, _, _, _, _] Z := hS
    replace hm : Fr 79 a [(3, _), (8, _), (10, _), (11, _), (12, _), (13, _)] := hm.keep [3, 8, 10, 11, 12, 13]
    refine c_block <| c_loop (fun k_111 a w_111 => ∃ (x_104 : List UInt8) (x_109 : Bool) (x_110 : Int) (v_107 : Value) (N_103 : Mem) (M_105 : Mem), hocketlaw12_FramBursts.L1 K x_41 x3 (fun v => hocketlaw12_FramBursts.J3 K v.1 v.2) k_111 (x_104, x_109, x_110) = some r ∧ Fr 79 a [(3, .int .i64 x3), (8, .bool false), (10, .int .i64 x_41), (11, v_107), (12, .bool x_109), (13, .int .i64 x_110)] ∧ Sep w0 w_111 [N_103, Mem.no, Mem.no, Mem.no, Mem.no, M_105] Z ∧ N_40.le N_103 ∧ Own Kd.u8 5 M_105 Mem.no v_107 x_104) K ⟨t_50, false, 0, v_52, N_40, M_53, H, hm, (Sep.sel hS [0, 1000, 1001, 1002, 1003, 5] (by decide)), (Mem.le.refl _), ho_54⟩ (fun a w h => by obtain ⟨_, _, _, _, _, _, H, _⟩ := h; cases (show (none : Option (Unit)) = some r from H)) ?_
    clear hm hS a H
    rintro k_111 a w_111 KL_111 hKL_111 ⟨x_104, x_109, x_110, v_107, N_103, M_105, H, hm, hS, le_103, ho_108⟩
    replace H : hocketlaw12_FramBursts.B1 K x_41 x3 (fun v => hocketlaw12_FramBursts.J3 K v.1 v.2) (hocketlaw12_FramBursts.L1 K x_41 x3 (fun v => hocketlaw12_FramBursts.J3 K v.1 v.2) k_111) x_104 x_109 x_110 = some r := H
    unfold hocketlaw12_FramBursts.B1 at H
    refine c_seq fun KJ_113 hKJ_113 => wp_seq <| wp_region_lit <| s_move hm rfl rfl fun a hm => s_cmp (b := decide (x_110 < 4)) hm rfl rfl rfl (.inr (.inr (.inl ⟨rfl, rfl⟩))) fun a hm => wpList_nil ?_
    replace hm : Fr 79 a [(3, _), (8, _), (10, _), (11, _), (12, _), (13, _), (40, .bool (decide (x_110 < 4)))] := hm.keep [3, 8, 10, 11, 12, 13, 40]
    refine x_then_n ?_
    by_cases hc_114 : x_110 < 4
    ·rw [if_pos hc_114] at H
     refine c_cond_t hm rfl (decide_eq_true hc_114) <| wp_skip <| x_then_n (hKJ_113 _ _ ?_)
     refine c_seq fun KJ_115 hKJ_115 => c_block <| wp_seq <| wp_region_lit <| s_move hm rfl rfl fun a hm => s_move hm rfl rfl fun a hm => s_arith (r := w64 (8 * x_110)) hm rfl rfl rfl (.inr (.inr ⟨rfl, rfl⟩)) fun a hm => s_conv (wu64 (w64 (8 * x_110))) hm rfl Try.underlying3 Try.underlying45 rfl rfl fun a hm => s_shift (r := shr .i64 x3 (wu64 (w64 (8 * x_110)))) hm rfl rfl rfl (wu64_nn _) (.inr ⟨rfl, rfl⟩) fun a hm => s_conv (((toU8 (shr .i64 x3 (wu64 (w64 (8 * x_110))))).toNat : Int)) hm rfl Try.underlying3 Try.underlying5 rfl (wrap_u8 _).symm fun a hm => s_assign hm rfl rfl fun a hm => wpList_nil ?_
     replace hm : Fr 79 a [(3, _), (8, _), (10, _), (11, _), (12, _), (13, _), (14, .int .u8 ((toU8 (shr .i64 x3 (wu64 (w64 (8 * x_110))))).toNat : Int))] := hm.keep [3, 8, 10, 11, 12, 13, 14]
     refine x_then_n <| wp_seq <| wp_region_lit <| s_move hm rfl rfl fun a hm => s_move hm rfl rfl fun a hm => s_move hm rfl rfl fun a hm => s_arith (r := w64 (x_41 + x_110)) hm rfl rfl rfl (.inl ⟨rfl, rfl⟩) fun a hm => s_move hm rfl rfl fun a hm => s_move hm rfl rfl fun a hm => s_move hm rfl rfl fun a hm => s_arith (r := w64 (x_41 + x_110)) hm rfl rfl rfl (.inl ⟨rfl, rfl⟩) fun a hm => ?_
     obtain ⟨t_116, et_116, H⟩ := Option.bind_eq_some_iff.1 H
     refine v_indexO hm rfl Try.underlying23 ti5 rfl rfl rfl ho_108 (hS.own 5) et_116 fun ad_117 cs_118 hk_119 hc_120 => ?_
     obtain rfl := (show cs_118 = [.int .u8 (t_116.toNat : Int)] from hk_119)
     intro a hm
     refine s_load hm rfl rfl (el_one (o := 0) hc_120 Try.underlying5 rfl rfl) fun a hm => s_move hm rfl rfl fun a hm => s_bits (i := (t_116.toNat : Int)) (j := ((toU8 (shr .i64 x3 (wu64 (w64 (8 * x_110))))).toNat : Int)) (r := ((t_116 ^^^ (toU8 (shr .i64 x3 (wu64 (w64 (8 * x_110)))))).toNat : Int)) hm rfl rfl rfl (.inr (.inr (.inl ⟨rfl, (bxor8 _ _).symm⟩))) fun a hm => ?_
     obtain ⟨t_121, et_121, H⟩ := Option.bind_eq_some_iff.1 H
     refine s_indexOwn hm rfl Try.underlying23 ti5 rfl rfl rfl ho_108 et_121 fun g_122 cur_123 hM_124 a hm => ?_
     obtain ⟨w_125, M_126, hs', hS', ho_127⟩ := Own.stored (P := Try.prog) (p := 5) (t := 5) (o := 0) (nv := .int .u8 ((t_116 ^^^ (toU8 (shr .i64 x3 (wu64 (w64 (8 * x_110)))))).toNat : Int)) (vs := [.int .u8 ((t_116 ^^^ (toU8 (shr .i64 x3 (wu64 (w64 (8 * x_110)))))).toNat : Int)]) (u' := t_116 ^^^ (toU8 (shr .i64 x3 (wu64 (w64 (8 * x_110)))))) hS rfl ho_108 hM_124 et_121 ti5 rfl rfl rfl (by intro u hu; simp only [List.mem_cons, List.not_mem_nil, or_false] at hu; rcases hu with rfl <;> rfl) (fun cs hk => by obtain rfl := (show cs = [_] from hk); rfl)
     refine s_store hm rfl rfl hs' ?_
     replace hS : Sep w0 w_125 [_, _, _, _, _, M_126] Z := hS'
     clear hs' hS'
     refine wpList_nil ?_
     replace hm : Fr 79 a [(3, _), (8, _), (10, _), (11, _), (12, _), (13, _), (14, _)] := hm.keep [3, 8, 10, 11, 12, 13, 14]
     refine x_then_n <| wp_region_lit <| s_move hm rfl rfl fun a hm => s_move hm rfl rfl fun a hm => ?_
     by_cases hc_128 : x_109 = true
     ·rw [if_pos hc_128] at H
      refine s_off hm rfl rfl rfl hc_128 fun a hm => s_off hm rfl rfl rfl hc_128 fun a hm => s_pick_t hm rfl rfl hc_128 rfl fun a hm => s_assign hm rfl rfl fun a hm => wpList_nil ?_
      replace hm : Fr 79 a [(3, _), (8, _), (10, _), (11, _), (12, .bool true), (13, _)] := hm.keep [3, 8, 10, 11, 12, 13]
      refine x_block_n <| x_then_n (hKJ_115 _ _ ?_)
      refine wp_region_lit <| s_move hm rfl rfl fun a hm => s_arith (r := w64 (x_110 + 1)) hm rfl rfl rfl (.inl ⟨rfl, rfl⟩) fun a hm => s_assign hm rfl rfl fun a hm => wpList_nil ?_
      replace hm : Fr 79 a [(3, _), (8, _), (10, _), (11, _), (12, _), (13, .int .i64 (w64 (x_110 + 1)))] := hm.keep [3, 8, 10, 11, 12, 13]
      refine x_then_n (hKL_111 _ _ ?_)
      replace hS : Sep w0 w_125 [_, _, _, _, _, _] Z := hS
      replace hm : Fr 79 a [(3, _), (8, _), (10, _), (11, _), (12, _), (13, _)] := hm.keep [3, 8, 10, 11, 12, 13]
      exact ⟨(x_104.set ((w64 (x_41 + x_110))).toNat (t_116 ^^^ (toU8 (shr .i64 x3 (wu64 (w64 (8 * x_110))))))), true, w64 (x_110 + 1), v_107, N_103, M_126, H, hm, (Sep.sel hS [0, 1000, 1001, 1002, 1003, 5] (by decide)), le_103, ho_127⟩
     ·rw [if_neg hc_128] at H
      refine s_on hm rfl rfl (Bool.eq_false_iff.2 hc_128) <| s_move hm rfl rfl fun a hm => s_on hm rfl rfl (Bool.eq_false_iff.2 hc_128) <| s_cmp (b := (((toU8 (shr .i64 x3 (wu64 (w64 (8 * x_110))))).toNat : Int) != ((0 : UInt8).toNat : Int))) hm rfl rfl rfl (.inr (.inl ⟨rfl, rfl⟩)) fun a hm => s_pick_f hm rfl rfl (Bool.eq_false_iff.2 hc_128) rfl fun a hm => s_assign hm rfl rfl fun a hm => wpList_nil ?_
      replace hm : Fr 79 a [(3, _), (8, _), (10, _), (11, _), (12, .bool (((toU8 (shr .i64 x3 (wu64 (w64 (8 * x_110))))).toNat : Int) != ((0 : UInt8).toNat : Int))), (13, _)] := hm.keep [3, 8, 10, 11, 12, 13]
      refine x_block_n <| x_then_n (hKJ_115 _ _ ?_)
      refine wp_region_lit <| s_move hm rfl rfl fun a hm => s_arith (r := w64 (x_110 + 1)) hm rfl rfl rfl (.inl ⟨rfl, rfl⟩) fun a hm => s_assign hm rfl rfl fun a hm => wpList_nil ?_
      replace hm : Fr 79 a [(3, _), (8, _), (10, _), (11, _), (12, _), (13, .int .i64 (w64 (x_110 + 1)))] := hm.keep [3, 8, 10, 11, 12, 13]
      refine x_then_n (hKL_111 _ _ ?_)
      replace hS : Sep w0 w_125 [_, _, _, _, _, _] Z := hS
      replace hm : Fr 79 a [(3, _), (8, _), (10, _), (11, _), (12, _), (13, _)] := hm.keep [3, 8, 10, 11, 12, 13]
      exact ⟨(x_104.set ((w64 (x_41 + x_110))).toNat (t_116 ^^^ (toU8 (shr .i64 x3 (wu64 (w64 (8 * x_110))))))), (((toU8 (shr .i64 x3 (wu64 (w64 (8 * x_110))))).toNat : Int) != ((0 : UInt8).toNat : Int)), w64 (x_110 + 1), v_107, N_103, M_126, H, hm, (Sep.sel hS [0, 1000, 1001, 1002, 1003, 5] (by decide)), le_103, ho_127⟩
    ·rw [if_neg hc_114] at H
     refine c_cond_f hm rfl (decide_eq_false hc_114) <| wp_exit (x_then_x (x_then_x (x_block_t ?_)))
     replace hS : Sep w0 w_111 [_, _, _, _, _, _] Z := hS
     replace hm : Fr 79 a [(8, _), (11, _), (12, _)] := hm.keep [8, 11, 12]
     exact x_then_n (hJ_j_65 x_104 x_109 H _ _ ⟨v_107, N_103, M_105, hm, (Sep.sel hS [0, 1000, 1001, 1002, 1003, 5] (by decide)), le_103, ho_108⟩)
   clear hKJ_34
   by_cases hc_129 : x_37 = true
   ·rw [if_pos hc_129] at H
    refine c_cond_t hm rfl hc_129 <| wp_region_lit <| s_assign hm rfl rfl fun a hm => wpList_nil ?_
    replace hm : Fr 79 a [(3, _), (8, _), (9, _), (10, .int .i64 4)] := hm.keep [3, 8, 9, 10]
    replace hS : Sep w0 w_38 [_, _, _, _, _] Z := hS
    replace hm : Fr 79 a [(3, _), (8, _), (9, _), (10, _)] := hm.keep [3, 8, 9, 10]
    exact x_then_n (hJ_j_43 4 H _ _ ⟨N_36, hm, (Sep.sel hS [0, 1000, 1001, 1002, 4] (by decide)), (Mem.le.refl _)⟩)
   ·rw [if_neg hc_129] at H
    refine c_cond_f hm rfl (Bool.eq_false_iff.2 hc_129) <| wp_skip ?_
    replace hS : Sep w0 w_38 [_, _, _, _, _] Z := hS
    replace hm : Fr 79 a [(3, _), (8, _), (9, _), (10, _)] := hm.keep [3, 8, 9, 10]
    exact x_then_n (hJ_j_43 t_33 H _ _ ⟨N_36, hm, (Sep.sel hS [0, 1000, 1001, 1002, 4] (by decide)), (Mem.le.refl _)⟩)
  clear hKJ_35
  refine wp_region_lit <| s_move hm rfl rfl fun a hm => s_cmp (b := decide (t_33 > 0)) hm rfl rfl rfl (.inr (.inr (.inr (.inr (.inl ⟨rfl, rfl⟩))))) fun a hm => s_move hm rfl rfl fun a hm => ?_
  by_cases hc_130 : t_33 > 0
  ·rw [if_pos hc_130] at H
   refine s_on hm rfl rfl (decide_eq_true hc_130) <| s_move hm rfl rfl fun a hm => s_on hm rfl rfl (decide_eq_true hc_130) <| s_cmp (b := decide (t_33 < 4)) hm rfl rfl rfl (.inr (.inr (.inl ⟨rfl, rfl⟩))) fun a hm => s_pick_t hm rfl rfl (decide_eq_true hc_130) rfl fun a hm => wpList_nil ?_
   replace hm : Fr 79 a [(3, _), (8, _), (9, _), (10, _), (35, .bool (decide (t_33 < 4)))] := hm.keep [3, 8, 9, 10, 35]
   replace hS : Sep w0 w_24 [_, _, _, _, _] Z := hS
   replace hm : Fr 79 a [(3, _), (8, _), (9, _), (10, _), (35, _)] := hm.keep [3, 8, 9, 10, 35]
   exact x_then_n (hJ_j_39 (decide (t_33 < 4)) H _ _ ⟨N_26, hm, (Sep.sel hS [0, 1000, 1001, 1002, 4] (by decide)), (Mem.le.refl _)⟩)
  ·rw [if_neg hc_130] at H
   refine s_off hm rfl rfl rfl (decide_eq_false hc_130) fun a hm => s_off hm rfl rfl rfl (decide_eq_false hc_130) fun a hm => s_pick_f hm rfl rfl (decide_eq_false hc_130) rfl fun a hm => wpList_nil ?_
   replace hm : Fr 79 a [(3, _), (8, _), (9, _), (10, _), (35, .bool false)] := hm.keep [3, 8, 9, 10, 35]
   replace hS : Sep w0 w_24 [_, _, _, _, _] Z := hS
   replace hm : Fr 79 a [(3, _), (8, _), (9, _), (10, _), (35, _)] := hm.keep [3, 8, 9, 10, 35]
   exact x_then_n (hJ_j_39 false H _ _ ⟨N_26, hm, (Sep.sel hS [0, 1000, 1001, 1002, 4] (by decide)), (Mem.le.refl _)⟩)


end Go.Proofs
