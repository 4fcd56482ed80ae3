/- What the calls do: each function once. -/
import Derived.Test.YtploijfgnnkddaaFacts
namespace Go.Proofs
open Go.Gp
set_option linter.unusedVariables false
set_option maxHeartbeats 4000000 in
theorem slices_Clone_sbyte_byte.calls (x0 : List UInt8) (p0_0 : Value) (r : List UInt8) (w0 w : World) (Z A : Mem) (hA : A.le Z) (hS : Sep w0 w [] Z) (hp0_0 : Rd Kd.u8 A p0_0 x0)
    (H : slices_Clone_sbyte_byte.f x0 = some r) :
    Calls Try.prog 35 [p0_0].toArray w (Ret fun v w' => ∃ (u0 : Value) (N : Mem) (M0 : Mem), v = u0 ∧ Sep w0 w' [N, M0] Z ∧ Own Kd.u8 5 M0 Mem.no u0 r) := by
  unfold slices_Clone_sbyte_byte.f at H
  refine f_enter _ Try.func35 rfl Try.ntmps35 rfl fun a hm => ?_
  replace hm : Fr 8 a [(0, p0_0)] := hm
  replace hS := hS.start
  replace hS : Sep w0 w [Mem.no] Z := hS
  refine wp_seq ?_
  refine wp_region_lit ?_
  refine s_assign hm rfl rfl ?_
  clear hm a; intro a hm
  refine wpList_nil ?_
  replace hm : Fr 8 a [(0, p0_0)] := hm.keep [0]
  refine x_then_n ?_
  refine c_seq fun KJ hKJ => ?_
  refine wp_seq ?_
  refine wp_region_lit ?_
  refine s_move hm rfl rfl ?_
  clear hm a; intro a hm
  refine s_slNil hm rfl Try.underlying22 rfl hp0_0 fun b hb => ?_
  clear hm a; intro a hm
  refine wpList_nil ?_
  refine x_then_n ?_
  cases b with
  | true =>
    have hx := hb rfl
    subst hx
    refine c_cond_t hm rfl rfl ?_
    refine wp_seq ?_
    refine wp_region_lit ?_
    refine s_assign hm rfl rfl ?_
    clear hm a; intro a hm
    refine wpList_nil ?_
    replace hm : Fr 8 a [(2, .slice none 0 0)] := hm.keep [2]
    refine x_then_n ?_
    refine wp_ret (x_then_r ?_)
    obtain rfl := (app_some H).2
    replace hS := hS.room
    exact f_ret hm (rs := [.tmp 2]) rfl (.tmp rfl .nil) ⟨_, rfl, _, Mem.no, Mem.no, rfl, hS, Own.nil _ _ _⟩
  | false =>
    refine c_cond_f hm rfl rfl ?_
    refine wp_skip ?_
    refine x_then_n (hKJ _ _ ?_)
    refine wp_seq ?_
    refine wp_region_lit ?_
    have hq5 : Reps Kd.u8 Mem.no ([] : List UInt8) _ := (Reps.nil Kd.u8 _)
    refine s_buildSlice hm rfl Try.underlying22 ti5 rfl rfl rfl .nil rfl rfl rfl hS hq5 rfl ?_
    intro w1 v2 M3 hS' ho4
    clear hm a; intro a hm
    replace hS : Sep w0 w1 [Mem.no, M3] Z := hS'
    clear hS' hq5
    refine s_move hm rfl rfl ?_
    clear hm a; intro a hm
    refine s_append (J := Mem.no) (I' := Mem.no) (p := 1) 140737488355328 hm rfl rfl rfl Try.underlying22 ti5 rfl rfl rfl rfl hS rfl ho4 (Src.flat flat_u8 (hp0_0.src (hA.trans hS.old))) mr mr H ?_
    intro w8 v9 M10 hS' ho11
    clear hm a; intro a hm
    refine s_assign hm rfl rfl ?_
    clear hm a; intro a hm
    refine wpList_nil ?_
    replace hm : Fr 8 a [(2, v9)] := hm.keep [2]
    refine x_then_n ?_
    refine wp_ret ?_
    exact f_ret hm (rs := [.tmp 2]) rfl (.tmp rfl .nil) ⟨_, rfl, _, Mem.no, M10, rfl, hS', ho11⟩

set_option maxHeartbeats 4000000 in
theorem slices_Clip_sbyte_byte.calls (v : Value) (w : World) (hf : ∃ A l c, v = .slice A l c ∧ l ≤ c) : Calls Try.prog 51 [v].toArray w (Ret fun u w' => w = w' ∧ Clipped v u) := by
  obtain ⟨A, l, c, rfl, hlc⟩ := hf
  refine f_enter _ Try.func51 rfl Try.ntmps51 rfl fun a hm => ?_
  replace hm : Fr 9 a [(0, .slice A l c)] := hm
  refine wp_seq ?_
  refine wp_region_lit ?_
  refine s_assign hm rfl rfl ?_
  clear hm a; intro a hm
  refine wpList_nil ?_
  refine x_then_n ?_
  refine wp_seq ?_
  refine wp_region_lit ?_
  refine s_move hm rfl rfl ?_
  clear hm a; intro a hm
  refine s_move hm rfl rfl ?_
  clear hm a; intro a hm
  refine s_lenV hm rfl Try.underlying22 rfl ?_
  clear hm a; intro a hm
  refine s_move hm rfl rfl ?_
  clear hm a; intro a hm
  refine s_lenV hm rfl Try.underlying22 rfl ?_
  clear hm a; intro a hm
  refine s_clip hm rfl Try.underlying22 ti5 rfl rfl rfl hlc ?_
  clear hm a; intro a hm
  refine s_assign hm rfl rfl ?_
  clear hm a; intro a hm
  refine wpList_nil ?_
  refine x_then_n ?_
  refine wp_ret ?_
  exact f_ret hm (rs := [.tmp 2]) rfl (.tmp rfl .nil) ⟨_, rfl, rfl, A, l, c, rfl, rfl⟩

set_option maxHeartbeats 4000000 in
set_option maxRecDepth 20000 in
theorem pack_held.calls (x0 : Int) (r : Int) (w0 w : World) (Z A : Mem) (hA : A.le Z) (hS : Sep w0 w [] Z)
    (H : pack_held.f x0 = some r) :
    Calls Try.prog 52 [iV x0].toArray w (Ret fun v w' => ∃ (N : Mem), v = iV r ∧ Sep w0 w' [N] Z) := by
 unfold pack_held.f at H
 refine f_enter _ Try.func52 rfl Try.ntmps52 rfl fun a h=>?_
 replace h : Fr 6 a [(0, iV x0)] := h
 replace hS := hS.start
 refine qr <| sg h rfl fun a h=>nx <| qr <| mv h rfl fun a h=>s_max h rfl rfl rfl fun a h=>s_min h rfl rfl rfl fun a h=>sg h rfl fun a h=>wpList_nil <| x_then_n ?_
 refine wp_ret ?_
 obtain rfl := Option.some.inj H
 exact r1 h 2 rfl rfl ⟨_, rfl, Mem.no, rfl, (hS.sel [0] (by decide))⟩

set_option maxHeartbeats 4000000 in
set_option maxRecDepth 20000 in
theorem pack_Num.calls (K : Nat) (x0 : List UInt8) (p0_0 : Value) (x1 : Int) (r : (List UInt8)) (w0 w : World) (Z A : Mem) (hA : A.le Z) (hS : Sep w0 w [] Z) (hp0_0 : Rd Kd.u8 A p0_0 x0)
    (H : pack_Num.f K x0 x1 = some r) :
    Calls Try.prog 22 [p0_0, iV x1].toArray w (Ret fun v w' => ∃ (u0 : Value) (N : Mem) (M0 : Mem), v = u0 ∧ Sep w0 w' [N, M0] Z ∧ Own Kd.u8 5 M0 Mem.no u0 r) := by
 unfold pack_Num.f at H
 refine f_enter _ Try.func22 rfl Try.ntmps22 rfl fun a h=>?_
 replace h : Fr 27 a [(0, p0_0), (1, iV x1)] := h
 replace hS := hS.start
 refine qr <| sg h rfl fun a h=>nx <| qr <| mv h rfl fun a h=>?_
 obtain ⟨t_1, et_1, H⟩ := bs H
 refine s_call h rfl Try.call35 rfl (slices_Clone_sbyte_byte.calls x0 _ t_1 w0 _ _ _ mr (hS.enter [] (by decide)) (hp0_0.mono (hA.trans (hS.le_zed []))) et_1) ?_
 rintro v_1 w_1 ⟨_, N_1, M_1, rfl, hS', hr_1⟩
 intro a h
 obtain ⟨N_2, hS'', le_1, ln_1⟩ := hS.call [] (by decide) rfl (l' := []) (ow := [_]) rfl hS'
 replace hS : Sep w0 w_1 [N_2, _] Z := hS''
 refine s_call h rfl Try.call51 rfl (slices_Clip_sbyte_byte.calls _ _ hr_1.slform) ?_
 rintro v_2 _ ⟨rfl, hk_1⟩
 intro a h
 refine sg h rfl fun a h=>nx <| c_seq fun KJ_1 hKJ_1 => qr <| mv h rfl fun a h=>?_
 obtain ⟨t_2, et_2, H⟩ := bs H
 refine s_call h rfl Try.call52 rfl (pack_held.calls x1 t_2 w0 _ _ _ mr (hS.enter [] (by decide))  et_2) ?_
 rintro _ w_2 ⟨N_3, rfl, hS'⟩
 intro a h
 obtain ⟨N_4, hS'', le_2, ln_2⟩ := hS.call [] (by decide) rfl (l' := []) (ow := []) rfl hS'
 replace hS : Sep w0 w_2 [N_4, _] Z := hS''
 refine sg h rfl fun a h=>wpList_nil <| x_then_n ?_
 have hJ_j_1 : ∀ (x_1 : Int), ∀ (x_2 : List UInt8), pack_Num.J1 K x_1 x_2 = some r → ∀ (a : Act) (w_3 : World), (∃ (v_3 : Value) (N_5 : Mem) (M_2 : Mem), Fr 27 a [(1, iV x_1), (4, nS), (5, v_3)] ∧ Sep w0 w_3 [N_5, M_2] Z ∧ N_4.le N_5 ∧ Own Kd.u8 5 M_2 Mem.no v_3 x_2) → KJ_1 a w_3 := by
  clear H h hS a
  rintro x_1 x_2 H a w_3 ⟨v_3, N_5, M_2, h, hS, le_3, ho_1⟩
  unfold pack_Num.J1 at H
  refine hKJ_1 _ _ <| qr <| mv h rfl fun a h=>mv h rfl fun a h=>s_conv (((toU8 x_1).toNat : Int)) h rfl U3 U5 rfl (wrap_u8 _).symm fun a h=>?_
  have hq_1 : Reps Kd.u8 Mem.no ([toU8 x_1] : List UInt8) _ := ((Reps.one (d := Kd.u8) (x := toU8 x_1) (show Kd.u8.K _ _ [.int .u8 ((toU8 x_1).toNat : Int)] from rfl)).append (Reps.nil Kd.u8 _))
  refine s_buildSlice h rfl U22 ti5 rfl rfl rfl (.cons rfl .nil) rfl rfl rfl hS hq_1 rfl fun w_4 v_4 M_3 hS' ho_2 a h => ?_
  replace hS : Sep w0 w_4 [_, _, M_3] Z := hS'
  obtain ⟨t_3, et_3, H⟩ := bs H
  refine s_append (J := Mem.no) (I' := Mem.no) (p := 1) 140737488355328 h rfl rfl rfl U22 ti5 rfl rfl rfl rfl hS rfl ho_1 (Src.flat flat_u8 (ho_2.src (hS.own 2))) mr mr et_3 fun w_5 v_5 M_4 hS' ho_3 a h => ?_
  replace hS : Sep w0 w_5 [_, M_4, _] Z := hS'
  refine sg h rfl fun a h=>wpList_nil ?_
  replace h : Fr 27 a [(4, v_5)] := h.keep [4]
  refine x_then_n <| wp_ret ?_
  obtain rfl := Option.some.inj H
  exact r1 h 4 rfl rfl ⟨_, rfl, v_5, N_5, M_4, rfl, (hS.sel [0, 1] (by decide)), ho_3⟩
 clear hKJ_1
 refine c_block <| c_loop (fun k_1 a w_6 => ∃ (x_3 : Int) (x_4 : List UInt8) (v_6 : Value) (N_6 : Mem) (M_5 : Mem), pack_Num.L1 K (fun v => pack_Num.J1 K v.1 v.2) k_1 (x_3, x_4) = some r ∧ Fr 27 a [(1, iV x_3), (4, nS), (5, v_6)] ∧ Sep w0 w_6 [N_6, M_5] Z ∧ N_4.le N_6 ∧ Own Kd.u8 5 M_5 Mem.no v_6 x_4) K ⟨t_2, t_1, v_2, N_4, M_1, H, (h.to rfl), (hS.sel [0, 1] (by decide)), mr, (hr_1.clip hk_1)⟩ (fun a w h => by obtain ⟨_, _, _, _, _, H, _⟩ := h; cases (show (none : Option ((List UInt8))) = some r from H)) ?_
 clear h hS a H
 rintro k_1 a w_6 KL_1 hKL_1 ⟨x_3, x_4, v_6, N_6, M_5, H, h, hS, le_4, ho_4⟩
 replace H : pack_Num.B1 K (fun v => pack_Num.J1 K v.1 v.2) (pack_Num.L1 K (fun v => pack_Num.J1 K v.1 v.2) k_1) x_3 x_4 = some r := H
 unfold pack_Num.B1 at H
 refine c_seq fun KJ_2 hKJ_2 => qr <| mv h rfl fun a h=>s_cmp (b := decide (x_3 ≥ 128)) h rfl rfl rfl (.inr (.inr (.inr (.inr (.inr ⟨rfl, rfl⟩))))) fun a h=>wpList_nil ?_
 replace h : Fr 27 a [(1, _), (4, _), (5, _), (12, .bool (decide (x_3 ≥ 128)))] := h.keep [1, 4, 5, 12]
 refine x_then_n ?_
 obtain ⟨hc_1, H⟩ | ⟨hc_1, H⟩ := ii H
 ·refine c_cond_t h rfl (dt hc_1) <| wp_skip <| x_then_n (hKJ_2 _ _ ?_)
  refine wp_seq <| c_block <| wp_region_lit <| mv h rfl fun a h=>mv h rfl fun a h=>s_bits (i := x_3) (j := 127) (r := band .i64 x_3 127) h rfl rfl rfl (.inl ⟨rfl, rfl⟩) fun a h=>s_bits (i := band .i64 x_3 127) (j := 128) (r := bor .i64 (band .i64 x_3 127) 128) h rfl rfl rfl (.inr (.inl ⟨rfl, rfl⟩)) fun a h=>s_conv (((toU8 (bor .i64 (band .i64 x_3 127) 128)).toNat : Int)) h rfl U3 U5 rfl (wrap_u8 _).symm fun a h=>?_
  have hq_2 : Reps Kd.u8 Mem.no ([toU8 (bor .i64 (band .i64 x_3 127) 128)] : List UInt8) _ := ((Reps.one (d := Kd.u8) (x := toU8 (bor .i64 (band .i64 x_3 127) 128)) (show Kd.u8.K _ _ [.int .u8 ((toU8 (bor .i64 (band .i64 x_3 127) 128)).toNat : Int)] from rfl)).append (Reps.nil Kd.u8 _))
  refine s_buildSlice h rfl U22 ti5 rfl rfl rfl (.cons rfl .nil) rfl rfl rfl hS hq_2 rfl fun w_7 v_7 M_6 hS' ho_5 a h => ?_
  replace hS : Sep w0 w_7 [_, _, M_6] Z := hS'
  obtain ⟨t_4, et_4, H⟩ := bs H
  refine s_append (J := Mem.no) (I' := Mem.no) (p := 1) 140737488355328 h rfl rfl rfl U22 ti5 rfl rfl rfl rfl hS rfl ho_4 (Src.flat flat_u8 (ho_5.src (hS.own 2))) mr mr et_4 fun w_8 v_8 M_7 hS' ho_6 a h => ?_
  replace hS : Sep w0 w_8 [_, M_7, _] Z := hS'
  refine sg h rfl fun a h=>wpList_nil <| x_block_n <| x_then_n <| wp_region_lit <| mv h rfl fun a h=>s_shift (r := shr .i64 x_3 7) h rfl rfl rfl (by decide) (.inr ⟨rfl, rfl⟩) fun a h=>sg h rfl fun a h=>wpList_nil <| x_then_n (hKL_1 _ _ ?_)
  exact ⟨shr .i64 x_3 7, t_4, v_8, N_6, M_7, H, (h.to rfl), (hS.sel [0, 1] (by decide)), le_4, ho_6⟩
 ·refine c_cond_f h rfl (df hc_1) <| wp_exit (x_then_x (x_then_x (x_block_t ?_)))
  exact x_then_n (hJ_j_1 x_3 x_4 H _ _ ⟨v_6, N_6, M_5, (h.to rfl), (hS.sel [0, 1] (by decide)), le_4, ho_4⟩)

set_option maxHeartbeats 4000000 in
set_option maxRecDepth 20000 in
theorem pack_Bytes.calls (K : Nat) (x0 : List UInt8) (p0_0 : Value) (x1 : List UInt8) (p1_1 : Value) (r : (List UInt8)) (w0 w : World) (Z A : Mem) (hA : A.le Z) (hS : Sep w0 w [] Z) (hp0_0 : Rd Kd.u8 A p0_0 x0) (hp1_1 : Rd Kd.u8 A p1_1 x1)
    (H : pack_Bytes.f K x0 x1 = some r) :
    Calls Try.prog 21 [p0_0, p1_1].toArray w (Ret fun v w' => ∃ (u0 : Value) (N : Mem) (M0 : Mem), v = u0 ∧ Sep w0 w' [N, M0] Z ∧ Own Kd.u8 5 M0 Mem.no u0 r) := by
 unfold pack_Bytes.f at H
 refine f_enter _ Try.func21 rfl Try.ntmps21 rfl fun a h=>?_
 replace h : Fr 11 a [(0, p0_0), (1, p1_1)] := h
 replace hS := hS.start
 refine qr <| sg h rfl fun a h=>nx <| qr <| mv h rfl fun a h=>mv h rfl fun a h=>s_len h rfl U22 rfl hp1_1 fun a h=>?_
 obtain ⟨t_1, et_1, H⟩ := bs H
 refine s_call h rfl Try.call22 rfl (pack_Num.calls K x0 _ (x1.length : Int) t_1 w0 _ _ _ mr (hS.enter [] (by decide)) (hp0_0.mono (hA.trans (hS.le_zed []))) et_1) ?_
 rintro v_1 w_1 ⟨_, N_1, M_1, rfl, hS', hr_1⟩
 intro a h
 obtain ⟨N_2, hS'', le_1, ln_1⟩ := hS.call [] (by decide) rfl (l' := []) (ow := [_]) rfl hS'
 replace hS : Sep w0 w_1 [N_2, _] Z := hS''
 refine mv h rfl fun a h=>?_
 obtain ⟨t_2, et_2, H⟩ := bs H
 refine s_append (J := Mem.no) (I' := Mem.no) (p := 1) 140737488355328 h rfl rfl rfl U22 ti5 rfl rfl rfl rfl hS rfl hr_1 (Src.flat flat_u8 (hp1_1.src (hA.trans hS.old))) mr mr et_2 fun w_2 v_2 M_2 hS' ho_1 a h => ?_
 replace hS : Sep w0 w_2 [_, M_2] Z := hS'
 refine sg h rfl fun a h=>nx <| wp_ret ?_
 obtain rfl := Option.some.inj H
 exact r1 h 4 rfl rfl ⟨_, rfl, v_2, N_2, M_2, rfl, (hS.sel [0, 1] (by decide)), ho_1⟩

set_option maxHeartbeats 4000000 in
set_option maxRecDepth 20000 in
theorem mach_PutEntry.calls (K : Nat) (x0 : List UInt8) (p0_0 : Value) (x1 : api_Entry) (p1_1 : Value) (p1_2 : Value) (p1_3 : Value) (r : (List UInt8)) (w0 w : World) (Z A : Mem) (hA : A.le Z) (hS : Sep w0 w [] Z) (hp0_0 : Rd Kd.u8 A p0_0 x0) (hp1_1 : Rd Kd.u8 A p1_1 x1.Cmd.Key) (hp1_2 : Rd Kd.u8 A p1_2 x1.Cmd.Val) (hp1_3 : Rd Kd.u8 A p1_3 x1.Cmd.Old)
    (H : mach_PutEntry.f K x0 x1 = some r) :
    Calls Try.prog 24 [p0_0, .agg (E26 x1 p1_1 p1_2 p1_3).toArray].toArray w (Ret fun v w' => ∃ (u0 : Value) (N : Mem) (M0 : Mem), v = u0 ∧ Sep w0 w' [N, M0] Z ∧ Own Kd.u8 5 M0 Mem.no u0 r) := by
 unfold mach_PutEntry.f at H
 refine f_enter _ Try.func24 rfl Try.ntmps24 rfl fun a h=>?_
 replace h : Fr 49 a [(0, p0_0), (1, .agg (E26 x1 p1_1 p1_2 p1_3).toArray)] := h
 replace hS := hS.start
 refine qr <| v_box (vs := (E26 x1 p1_1 p1_2 p1_3)) h rfl rfl rfl hS fun w_1 g_1 hS' a h => ?_
 replace hS : Sep w0 w_1 [_, bx g_1 26 (E26 x1 p1_1 p1_2 p1_3)] Z := hS'
 refine sg h rfl fun a h=>nx <| c_seq fun KJ_1 hKJ_1 => qr <| s_fieldAddr h rfl U26 rfl ti3 rfl rfl fun a h=>s_load h rfl rfl (hS.load_one (p := 1) rfl U3 rfl rfl) fun a h=>s_fieldAddr h rfl U26 rfl ti3 rfl rfl fun a h=>s_load h rfl rfl (hS.load_one (p := 1) rfl U3 rfl rfl) fun a h=>s_fieldAddr h rfl U26 rfl ti24 rfl rfl fun a h=>s_fieldAddr h rfl U24 rfl ti3 rfl rfl fun a h=>?_
 refine s_load h rfl rfl (hS.load_one (p := 1) rfl U3 rfl rfl) fun a h=>s_fieldAddr h rfl U26 rfl ti24 rfl rfl fun a h=>s_fieldAddr h rfl U24 rfl ti3 rfl rfl fun a h=>s_load h rfl rfl (hS.load_one (p := 1) rfl U3 rfl rfl) fun a h=>?_
 have hq_1 : Reps (Kd.int .i64) Mem.no ([x1.Sess, x1.Seq, x1.Cmd.Kind, x1.Cmd.Who] : List Int) _ := ((Reps.one (d := (Kd.int .i64)) (x := x1.Sess) (show (Kd.int .i64).K _ _ [iV x1.Sess] from rfl)).append ((Reps.one (d := (Kd.int .i64)) (x := x1.Seq) (show (Kd.int .i64).K _ _ [iV x1.Seq] from rfl)).append ((Reps.one (d := (Kd.int .i64)) (x := x1.Cmd.Kind) (show (Kd.int .i64).K _ _ [iV x1.Cmd.Kind] from rfl)).append ((Reps.one (d := (Kd.int .i64)) (x := x1.Cmd.Who) (show (Kd.int .i64).K _ _ [iV x1.Cmd.Who] from rfl)).append (Reps.nil (Kd.int .i64) _)))))
 refine s_buildSlice h rfl U29 ti3 rfl rfl rfl (.cons rfl (.cons rfl (.cons rfl (.cons rfl .nil)))) rfl rfl rfl hS hq_1 rfl fun w_2 v_1 M_1 hS' ho_1 a h => ?_
 replace hS : Sep w0 w_2 [_, _, M_1] Z := hS'
 refine s_lenO h rfl U29 rfl ho_1 fun a h=>mv h rfl fun a h=>wpList_nil <| x_then_n ?_
 have hJ_j_1 : ∀ (x_1 : List UInt8), mach_PutEntry.J1 K x1 x_1 = some r → ∀ (a : Act) (w_3 : World), (∃ (v_2 : Value) (N_1 : Mem) (M_2 : Mem), Fr 49 a [(0, v_2), (3, .pointer (some ⟨g_1, 0, none⟩)), (4, nS)] ∧ Sep w0 w_3 [N_1, bx g_1 26 (E26 x1 p1_1 p1_2 p1_3), Mem.no, M_2] Z ∧ Mem.no.le N_1 ∧ Own Kd.u8 5 M_2 Mem.no v_2 x_1) → KJ_1 a w_3 := by
  clear H h hS a
  rintro x_1 H a w_3 ⟨v_2, N_1, M_2, h, hS, le_1, ho_2⟩
  unfold mach_PutEntry.J1 at H
  refine hKJ_1 _ _ <| c_seq fun KJ_2 hKJ_2 => qr <| s_fieldAddr h rfl U26 rfl ti24 rfl rfl fun a h=>s_fieldAddr h rfl U24 rfl ti22 rfl rfl fun a h=>s_load h rfl rfl (hS.load_one (p := 1) rfl U22 rfl rfl) fun a h=>s_fieldAddr h rfl U26 rfl ti24 rfl rfl fun a h=>s_fieldAddr h rfl U24 rfl ti22 rfl rfl fun a h=>s_load h rfl rfl (hS.load_one (p := 1) rfl U22 rfl rfl) fun a h=>s_fieldAddr h rfl U26 rfl ti24 rfl rfl fun a h=>s_fieldAddr h rfl U24 rfl ti22 rfl rfl fun a h=>?_
  refine s_load h rfl rfl (hS.load_one (p := 1) rfl U22 rfl rfl) fun a h=>?_
  have hq_2 : Reps (Kd.slice Kd.u8) (A.un N_1) ([x1.Cmd.Key, x1.Cmd.Val, x1.Cmd.Old] : List (List UInt8)) _ := ((Reps.one (d := (Kd.slice Kd.u8)) (x := x1.Cmd.Key) ⟨_, rfl, (hp1_1.mono (Mem.le_un _ _))⟩).append ((Reps.one (d := (Kd.slice Kd.u8)) (x := x1.Cmd.Val) ⟨_, rfl, (hp1_2.mono (Mem.le_un _ _))⟩).append ((Reps.one (d := (Kd.slice Kd.u8)) (x := x1.Cmd.Old) ⟨_, rfl, (hp1_3.mono (Mem.le_un _ _))⟩).append (Reps.nil (Kd.slice Kd.u8) _))))
  refine s_buildSlice h rfl U28 ti22 rfl rfl rfl (.cons hp1_1.cells (.cons hp1_2.cells (.cons hp1_3.cells .nil))) rfl rfl rfl hS hq_2 rfl fun w_4 v_3 M_3 hS' ho_3 a h => ?_
  replace hS : Sep w0 w_4 [_, _, _, _, M_3] Z := hS'
  refine s_lenO h rfl U28 rfl ho_3 fun a h=>mv h rfl fun a h=>wpList_nil <| x_then_n ?_
  have hJ_j_2 : ∀ (x_2 : List UInt8), mach_PutEntry.J2 K x_2 = some r → ∀ (a : Act) (w_5 : World), (∃ (v_4 : Value) (N_2 : Mem) (M_4 : Mem), Fr 49 a [(0, v_4), (4, nS)] ∧ Sep w0 w_5 [N_2, Mem.no, Mem.no, Mem.no, Mem.no, M_4] Z ∧ N_1.le N_2 ∧ Own Kd.u8 5 M_4 Mem.no v_4 x_2) → KJ_2 a w_5 := by
   clear H h hS a
   rintro x_2 H a w_5 ⟨v_4, N_2, M_4, h, hS, le_2, ho_4⟩
   unfold mach_PutEntry.J2 at H
   refine hKJ_2 _ _ <| qr <| mv h rfl fun a h=>sg h rfl fun a h=>wpList_nil ?_
   replace h : Fr 49 a [(4, v_4)] := h.keep [4]
   refine x_then_n <| wp_ret ?_
   obtain rfl := Option.some.inj H
   exact r1 h 4 rfl rfl ⟨_, rfl, v_4, N_2, M_4, rfl, (hS.sel [0, 5] (by decide)), ho_4⟩
  clear hKJ_2
  refine c_block <| c_loop (fun k_1 a w_6 => ∃ (x_3 : List UInt8) (x_4 : Int) (v_5 : Value) (N_3 : Mem) (M_5 : Mem), mach_PutEntry.L1 K x1 (fun v => mach_PutEntry.J2 K v) k_1 (x_3, x_4) = some r ∧ Fr 49 a [(0, v_5), (4, nS), (38, v_3), (39, iV (([x1.Cmd.Key, x1.Cmd.Val, x1.Cmd.Old] : List (List UInt8)).length : Int)), (40, iV x_4)] ∧ Sep w0 w_6 [N_3, Mem.no, Mem.no, Mem.no, M_3, M_5] Z ∧ N_1.le N_3 ∧ Own Kd.u8 5 M_5 Mem.no v_5 x_3) K ⟨x_1, 0, v_2, N_1, M_2, H, (h.to rfl), (hS.sel [0, 1000, 1001, 1002, 4, 3] (by decide)), mr, ho_2⟩ (fun a w h => by obtain ⟨_, _, _, _, _, H, _⟩ := h; cases (show (none : Option ((List UInt8))) = some r from H)) ?_
  clear h hS a H
  rintro k_1 a w_6 KL_1 hKL_1 ⟨x_3, x_4, v_5, N_3, M_5, H, h, hS, le_3, ho_5⟩
  replace H : mach_PutEntry.B1 K x1 (fun v => mach_PutEntry.J2 K v) (mach_PutEntry.L1 K x1 (fun v => mach_PutEntry.J2 K v) k_1) x_3 x_4 = some r := H
  unfold mach_PutEntry.B1 at H
  refine qr <| s_cmp (b := decide (x_4 < (([x1.Cmd.Key, x1.Cmd.Val, x1.Cmd.Old] : List (List UInt8)).length : Int))) h rfl rfl rfl (.inr (.inr (.inl ⟨rfl, rfl⟩))) fun a h=>wpList_nil ?_
  replace h : Fr 49 a [(0, _), (4, _), (38, _), (39, _), (40, _), (41, .bool (decide (x_4 < (([x1.Cmd.Key, x1.Cmd.Val, x1.Cmd.Old] : List (List UInt8)).length : Int))))] := h.keep [0, 4, 38, 39, 40, 41]
  refine x_then_n <| c_seq fun KJ_3 hKJ_3 => ?_
  obtain ⟨hc_1, H⟩ | ⟨hc_1, H⟩ := ii H
  ·refine c_cond_t h rfl (dt hc_1) <| wp_skip <| x_then_n (hKJ_3 _ _ ?_)
   refine wp_seq <| c_block <| wp_seq <| wp_region_lit ?_
   obtain ⟨t_1, et_1, H⟩ := bs H
   refine v_indexO h rfl U28 ti22 rfl rfl rfl ho_3 (hS.own 4) et_1 fun ad_1 cs_1 hk_1 hc_2 => ?_
   obtain ⟨v_6, rfl, hr_1⟩ := hk_1
   intro a h
   refine s_load h rfl rfl (el_one (o := 0) hc_2 U22 rfl rfl) fun a h=>sg h rfl fun a h=>nx <| wp_region_lit <| mv h rfl fun a h=>mv h rfl fun a h=>?_
   obtain ⟨t_2, et_2, H⟩ := bs H
   refine s_call h rfl Try.call21 rfl (pack_Bytes.calls K x_3 _ t_1 _ t_2 w0 _ _ _ mr (hS.enter [] (by decide)) (ho_5.rd (hS.own_zed [] 4 (by decide)) (Mem.no_le _)) (hr_1.mono (Mem.un_le (hA.trans (hS.le_zed [])) (le_3.trans (hS.new_zed [])))) et_2) ?_
   rintro v_7 w_7 ⟨_, N_4, M_6, rfl, hS', hr_2⟩
   intro a h
   obtain ⟨N_5, hS'', le_4, ln_1⟩ := hS.call [] (by decide) rfl (l' := []) (ow := [_]) rfl hS'
   replace hS : Sep w0 w_7 [N_5, _, _, _, _, _, _] Z := hS''
   refine sg h rfl fun a h=>wpList_nil <| x_block_n <| x_then_n <| wp_region_lit <| s_arith (r := w64 (x_4 + 1)) h rfl rfl rfl (.inl ⟨rfl, rfl⟩) fun a h=>mv h rfl fun a h=>wpList_nil <| x_then_n (hKL_1 _ _ ?_)
   exact ⟨t_2, w64 (x_4 + 1), v_7, N_5, M_6, H, (h.to rfl), (hS.sel [0, 1000, 1001, 1002, 4, 6] (by decide)), (le_3.trans le_4), hr_2⟩
  ·refine c_cond_f h rfl (df hc_1) <| wp_exit (x_then_x (x_then_x (x_block_t ?_)))
   exact x_then_n (hJ_j_2 x_3 H _ _ ⟨v_5, N_3, M_5, (h.to rfl), (hS.sel [0, 1000, 1001, 1002, 1003, 5] (by decide)), le_3, ho_5⟩)
 clear hKJ_1
 refine c_block <| c_loop1 (fun k_2 a w_8 => ∃ (x_5 : List UInt8) (x_6 : Int) (v_8 : Value) (N_6 : Mem) (M_7 : Mem), mach_PutEntry.L2 K x1 (fun v => mach_PutEntry.J1 K x1 v) k_2 (x_5, x_6) = some r ∧ Fr 49 a [(0, v_8), (3, .pointer (some ⟨g_1, 0, none⟩)), (4, nS), (19, v_1), (20, iV (([x1.Sess, x1.Seq, x1.Cmd.Kind, x1.Cmd.Who] : List Int).length : Int)), (21, iV x_6)] ∧ Sep w0 w_8 [N_6, bx g_1 26 (E26 x1 p1_1 p1_2 p1_3), M_1, M_7] Z ∧ Mem.no.le N_6 ∧ Own Kd.u8 5 M_7 Mem.no v_8 x_5) K (fun KL_2 hKL_2 => ?_) (fun a w h => by obtain ⟨_, _, _, _, _, H, _⟩ := h; cases (show (none : Option ((List UInt8))) = some r from H)) ?_
 ·refine qr <| s_cmp (b := true) h rfl rfl rfl (.inr (.inr (.inl ⟨rfl, rfl⟩))) fun a h=>nx <| c_seq fun KJ_4 hKJ_4 => c_cond_t h rfl rfl <| wp_skip <| x_then_n (hKJ_4 _ _ ?_)
  refine wp_seq <| c_block <| wp_seq <| wp_region_lit ?_
  obtain ⟨t_3, et_3, H⟩ := bs H
  refine v_indexO h rfl U29 ti3 rfl rfl rfl ho_1 (hS.own 2) et_3 fun ad_2 cs_2 hk_2 hc_3 => ?_
  obtain rfl := (show cs_2 = [iV t_3] from hk_2)
  intro a h
  refine s_load h rfl rfl (el_one (o := 0) hc_3 U3 rfl rfl) fun a h=>sg h rfl fun a h=>wpList_nil ?_
  replace h : Fr 49 a [(0, _), (3, .pointer (some ⟨g_1, 0, none⟩)), (4, nS), (6, iV t_3), (19, v_1), (20, iV (([x1.Sess, x1.Seq, x1.Cmd.Kind, x1.Cmd.Who] : List Int).length : Int)), (21, iV 0)] := h.keep [0, 3, 4, 6, 19, 20, 21]
  refine x_then_n <| wp_region_lit <| mv h rfl fun a h=>mv h rfl fun a h=>?_
  obtain ⟨t_4, et_4, H⟩ := bs H
  refine s_call h rfl Try.call22 rfl (pack_Num.calls K x0 _ t_3 t_4 w0 _ _ _ mr (hS.enter [] (by decide)) (hp0_0.mono (hA.trans (hS.le_zed []))) et_4) ?_
  rintro v_9 w_9 ⟨_, N_7, M_8, rfl, hS', hr_3⟩
  intro a h
  obtain ⟨N_8, hS'', le_5, ln_2⟩ := hS.call [] (by decide) rfl (l' := []) (ow := [_]) rfl hS'
  replace hS : Sep w0 w_9 [N_8, _, _, _] Z := hS''
  refine sg h rfl fun a h=>wpList_nil <| x_block_n <| x_then_n <| wp_region_lit <| s_arith (r := w64 (0 + 1)) h rfl rfl rfl (.inl ⟨rfl, rfl⟩) fun a h=>mv h rfl fun a h=>wpList_nil <| x_then_n (hKL_2 _ _ ?_)
  exact ⟨t_4, w64 (0 + 1), v_9, N_8, M_8, H, (h.to rfl), (hS.sel [0, 1, 2, 3] (by decide)), le_5, hr_3⟩
 clear h hS a H
 rintro k_2 a w_8 KL_2 hKL_2 ⟨x_5, x_6, v_8, N_6, M_7, H, h, hS, le_6, ho_6⟩
 replace H : mach_PutEntry.B2 K x1 (fun v => mach_PutEntry.J1 K x1 v) (mach_PutEntry.L2 K x1 (fun v => mach_PutEntry.J1 K x1 v) k_2) x_5 x_6 = some r := H
 unfold mach_PutEntry.B2 at H
 refine qr <| s_cmp (b := decide (x_6 < (([x1.Sess, x1.Seq, x1.Cmd.Kind, x1.Cmd.Who] : List Int).length : Int))) h rfl rfl rfl (.inr (.inr (.inl ⟨rfl, rfl⟩))) fun a h=>nx <| c_seq fun KJ_5 hKJ_5 => ?_
 obtain ⟨hc_4, H⟩ | ⟨hc_4, H⟩ := ii H
 ·refine c_cond_t h rfl (dt hc_4) <| wp_skip <| x_then_n (hKJ_5 _ _ ?_)
  refine wp_seq <| c_block <| wp_seq <| wp_region_lit ?_
  obtain ⟨t_5, et_5, H⟩ := bs H
  refine v_indexO h rfl U29 ti3 rfl rfl rfl ho_1 (hS.own 2) et_5 fun ad_3 cs_3 hk_3 hc_5 => ?_
  obtain rfl := (show cs_3 = [iV t_5] from hk_3)
  intro a h
  refine s_load h rfl rfl (el_one (o := 0) hc_5 U3 rfl rfl) fun a h=>sg h rfl fun a h=>wpList_nil ?_
  replace h : Fr 49 a [(0, _), (3, _), (4, _), (6, iV t_5), (19, _), (20, _), (21, _)] := h.keep [0, 3, 4, 6, 19, 20, 21]
  refine x_then_n <| wp_region_lit <| mv h rfl fun a h=>mv h rfl fun a h=>?_
  obtain ⟨t_6, et_6, H⟩ := bs H
  refine s_call h rfl Try.call22 rfl (pack_Num.calls K x_5 _ t_5 t_6 w0 _ _ _ mr (hS.enter [] (by decide)) (ho_6.rd (hS.own_zed [] 2 (by decide)) (Mem.no_le _)) et_6) ?_
  rintro v_10 w_10 ⟨_, N_9, M_9, rfl, hS', hr_4⟩
  intro a h
  obtain ⟨N_10, hS'', le_7, ln_3⟩ := hS.call [] (by decide) rfl (l' := []) (ow := [_]) rfl hS'
  replace hS : Sep w0 w_10 [N_10, _, _, _, _] Z := hS''
  refine sg h rfl fun a h=>wpList_nil <| x_block_n <| x_then_n <| wp_region_lit <| s_arith (r := w64 (x_6 + 1)) h rfl rfl rfl (.inl ⟨rfl, rfl⟩) fun a h=>mv h rfl fun a h=>wpList_nil <| x_then_n (hKL_2 _ _ ?_)
  exact ⟨t_6, w64 (x_6 + 1), v_10, N_10, M_9, H, (h.to rfl), (hS.sel [0, 1, 2, 4] (by decide)), (le_6.trans le_7), hr_4⟩
 ·refine c_cond_f h rfl (df hc_4) <| wp_exit (x_then_x (x_then_x (x_block_t ?_)))
  exact x_then_n (hJ_j_1 x_5 H _ _ ⟨v_8, N_6, M_7, (h.to rfl), (hS.sel [0, 1, 1001, 3] (by decide)), le_6, ho_6⟩)

set_option maxHeartbeats 4000000 in
set_option maxRecDepth 20000 in
theorem crcs_Next.calls (K : Nat) (x0 : UInt32) (x1 : UInt8) (r : UInt32) (w0 w : World) (Z A : Mem) (hA : A.le Z) (hS : Sep w0 w [] Z)
    (H : crcs_Next.f K x0 x1 = some r) :
    Calls Try.prog 74 [.int .u32 (x0.toNat : Int), .int .u8 (x1.toNat : Int)].toArray w (Ret fun v w' => ∃ (N : Mem), v = .int .u32 (r.toNat : Int) ∧ Sep w0 w' [N] Z) := by
 unfold crcs_Next.f at H
 refine f_enter _ Try.func74 rfl Try.ntmps74 rfl fun a h=>?_
 replace h : Fr 22 a [(0, .int .u32 (x0.toNat : Int)), (1, .int .u8 (x1.toNat : Int))] := h
 replace hS := hS.start
 refine qr <| sg h rfl fun a h=>nx <| qr <| mv h rfl fun a h=>mv h rfl fun a h=>s_conv (((toU32 (x1.toNat : Int)).toNat : Int)) h rfl U5 U65 rfl (wrap_u32 _).symm fun a h=>s_bits (i := (x0.toNat : Int)) (j := ((toU32 (x1.toNat : Int)).toNat : Int)) (r := ((x0 ^^^ (toU32 (x1.toNat : Int))).toNat : Int)) h rfl rfl rfl (.inr (.inr (.inl ⟨rfl, (bxor32 _ _).symm⟩))) fun a h=>sg h rfl fun a h=>?_
 refine nx <| c_seq fun KJ_1 hKJ_1 => qr <| mv h rfl fun a h=>wpList_nil <| x_then_n ?_
 have hJ_j_1 : ∀ (x_1 : UInt32), crcs_Next.J1 K x_1 = some r → ∀ (a : Act) (w_1 : World), (∃ (N_1 : Mem), Fr 22 a [(0, .int .u32 (x_1.toNat : Int)), (4, .int .u32 ((0 : UInt32).toNat : Int))] ∧ Sep w0 w_1 [N_1] Z ∧ Mem.no.le N_1) → KJ_1 a w_1 := by
  clear H h hS a
  rintro x_1 H a w_1 ⟨N_1, h, hS, le_1⟩
  unfold crcs_Next.J1 at H
  refine hKJ_1 _ _ <| qr <| mv h rfl fun a h=>sg h rfl fun a h=>wpList_nil ?_
  replace h : Fr 22 a [(4, .int .u32 (x_1.toNat : Int))] := h.keep [4]
  refine x_then_n <| wp_ret ?_
  obtain rfl := Option.some.inj H
  exact r1 h 4 rfl rfl ⟨_, rfl, N_1, rfl, (hS.sel [0] (by decide))⟩
 clear hKJ_1
 refine c_block <| c_loop (fun k_1 a w_2 => ∃ (x_2 : UInt32) (x_3 : Int) (N_2 : Mem), crcs_Next.L1 K (fun v => crcs_Next.J1 K v) k_1 (x_2, x_3) = some r ∧ Fr 22 a [(0, .int .u32 (x_2.toNat : Int)), (4, .int .u32 ((0 : UInt32).toNat : Int)), (10, iV x_3)] ∧ Sep w0 w_2 [N_2] Z ∧ Mem.no.le N_2) K ⟨x0 ^^^ (toU32 (x1.toNat : Int)), 0, Mem.no, H, (h.to rfl), (hS.sel [0] (by decide)), mr⟩ (fun a w h => by obtain ⟨_, _, _, H, _⟩ := h; cases (show (none : Option (UInt32)) = some r from H)) ?_
 clear h hS a H
 rintro k_1 a w_2 KL_1 hKL_1 ⟨x_2, x_3, N_2, H, h, hS, le_2⟩
 replace H : crcs_Next.B1 K (fun v => crcs_Next.J1 K v) (crcs_Next.L1 K (fun v => crcs_Next.J1 K v) k_1) x_2 x_3 = some r := H
 unfold crcs_Next.B1 at H
 refine qr <| s_cmp (b := decide (x_3 < 8)) h rfl rfl rfl (.inr (.inr (.inl ⟨rfl, rfl⟩))) fun a h=>wpList_nil ?_
 replace h : Fr 22 a [(0, _), (4, _), (10, _), (11, .bool (decide (x_3 < 8)))] := h.keep [0, 4, 10, 11]
 refine x_then_n <| c_seq fun KJ_2 hKJ_2 => ?_
 obtain ⟨hc_1, H⟩ | ⟨hc_1, H⟩ := ii H
 ·refine c_cond_t h rfl (dt hc_1) <| wp_skip <| x_then_n (hKJ_2 _ _ ?_)
  refine c_seq fun KJ_3 hKJ_3 => c_block <| qr <| mv h rfl fun a h=>s_bits (i := (x_2.toNat : Int)) (j := ((1 : UInt32).toNat : Int)) (r := ((x_2 &&& (1 : UInt32)).toNat : Int)) h rfl rfl rfl (.inl ⟨rfl, (band32 _ _).symm⟩) fun a h=>sg h rfl fun a h=>nx <| qr <| mv h rfl fun a h=>?_
  refine s_shift (r := ((toU32 (shr .u32 (x_2.toNat : Int) 1)).toNat : Int)) h rfl rfl rfl (by decide) (.inr ⟨rfl, (shr32 _ _).symm⟩) fun a h=>sg h rfl fun a h=>nx <| qr <| mv h rfl fun a h=>s_cmp (b := (((x_2 &&& (1 : UInt32)).toNat : Int) == ((1 : UInt32).toNat : Int))) h rfl rfl rfl (.inl ⟨rfl, rfl⟩) fun a h=>wpList_nil <| x_then_n ?_
  obtain ⟨hc_2, H⟩ | ⟨hc_2, H⟩ := ii H
  ·refine c_cond_t h rfl (bt hc_2) <| wp_region_lit <| mv h rfl fun a h=>s_bits (i := ((toU32 (shr .u32 (x_2.toNat : Int) 1)).toNat : Int)) (j := ((3988292384 : UInt32).toNat : Int)) (r := (((toU32 (shr .u32 (x_2.toNat : Int) 1)) ^^^ (3988292384 : UInt32)).toNat : Int)) h rfl rfl rfl (.inr (.inr (.inl ⟨rfl, (bxor32 _ _).symm⟩))) fun a h=>sg h rfl fun a h=>wpList_nil ?_
   replace h : Fr 22 a [(0, .int .u32 (((toU32 (shr .u32 (x_2.toNat : Int) 1)) ^^^ (3988292384 : UInt32)).toNat : Int)), (4, _), (10, _)] := h.keep [0, 4, 10]
   refine x_block_n <| x_then_n (hKJ_3 _ _ ?_)
   refine wp_region_lit <| s_arith (r := w64 (x_3 + 1)) h rfl rfl rfl (.inl ⟨rfl, rfl⟩) fun a h=>mv h rfl fun a h=>wpList_nil <| x_then_n (hKL_1 _ _ ?_)
   exact ⟨(toU32 (shr .u32 (x_2.toNat : Int) 1)) ^^^ (3988292384 : UInt32), w64 (x_3 + 1), N_2, H, (h.to rfl), (hS.sel [0] (by decide)), le_2⟩
  ·refine c_cond_f h rfl (bf hc_2) <| wp_skip <| x_block_n <| x_then_n (hKJ_3 _ _ ?_)
   refine wp_region_lit <| s_arith (r := w64 (x_3 + 1)) h rfl rfl rfl (.inl ⟨rfl, rfl⟩) fun a h=>mv h rfl fun a h=>wpList_nil ?_
   replace h : Fr 22 a [(0, .int .u32 ((toU32 (shr .u32 (x_2.toNat : Int) 1)).toNat : Int)), (4, _), (10, iV (w64 (x_3 + 1)))] := h.keep [0, 4, 10]
   refine x_then_n (hKL_1 _ _ ?_)
   exact ⟨toU32 (shr .u32 (x_2.toNat : Int) 1), w64 (x_3 + 1), N_2, H, (h.to rfl), (hS.sel [0] (by decide)), le_2⟩
 ·refine c_cond_f h rfl (df hc_1) <| wp_exit (x_then_x (x_then_x (x_block_t ?_)))
  exact x_then_n (hJ_j_1 x_2 H _ _ ⟨N_2, (h.to rfl), (hS.sel [0] (by decide)), le_2⟩)

set_option maxHeartbeats 4000000 in
set_option maxRecDepth 20000 in
theorem crcs_Sum.calls (K : Nat) (x0 : List UInt8) (p0_0 : Value) (r : UInt32) (w0 w : World) (Z A : Mem) (hA : A.le Z) (hS : Sep w0 w [] Z) (hp0_0 : Rd Kd.u8 A p0_0 x0)
    (H : crcs_Sum.f K x0 = some r) :
    Calls Try.prog 53 [p0_0].toArray w (Ret fun v w' => ∃ (N : Mem), v = .int .u32 (r.toNat : Int) ∧ Sep w0 w' [N] Z) := by
 unfold crcs_Sum.f at H
 refine f_enter _ Try.func53 rfl Try.ntmps53 rfl fun a h=>?_
 replace h : Fr 18 a [(0, p0_0)] := h
 replace hS := hS.start
 refine qr <| sg h rfl fun a h=>nx <| qr <| sg h rfl fun a h=>nx <| c_seq fun KJ_1 hKJ_1 => wp_seq <| wp_region_lit ?_
 refine mv h rfl fun a h=>s_len h rfl U22 rfl hp0_0 fun a h=>mv h rfl fun a h=>wpList_nil <| x_then_n ?_
 have hJ_j_1 : ∀ (x_1 : UInt32), crcs_Sum.J1 K x_1 = some r → ∀ (a : Act) (w_1 : World), (∃ (N_1 : Mem), Fr 18 a [(2, .int .u32 ((0 : UInt32).toNat : Int)), (3, .int .u32 (x_1.toNat : Int))] ∧ Sep w0 w_1 [N_1] Z ∧ Mem.no.le N_1) → KJ_1 a w_1 := by
  clear H h hS a
  rintro x_1 H a w_1 ⟨N_1, h, hS, le_1⟩
  unfold crcs_Sum.J1 at H
  refine hKJ_1 _ _ <| qr <| mv h rfl fun a h=>s_bits (i := (x_1.toNat : Int)) (j := ((4294967295 : UInt32).toNat : Int)) (r := ((x_1 ^^^ (4294967295 : UInt32)).toNat : Int)) h rfl rfl rfl (.inr (.inr (.inl ⟨rfl, (bxor32 _ _).symm⟩))) fun a h=>sg h rfl fun a h=>wpList_nil ?_
  replace h : Fr 18 a [(2, .int .u32 ((x_1 ^^^ (4294967295 : UInt32)).toNat : Int))] := h.keep [2]
  refine x_then_n <| wp_ret ?_
  obtain rfl := Option.some.inj H
  exact r1 h 2 rfl rfl ⟨_, rfl, N_1, rfl, (hS.sel [0] (by decide))⟩
 clear hKJ_1
 refine c_block <| c_loop (fun k_1 a w_2 => ∃ (x_2 : UInt32) (x_3 : Int) (N_2 : Mem), crcs_Sum.L1 K x0 (fun v => crcs_Sum.J1 K v) k_1 (x_2, x_3) = some r ∧ Fr 18 a [(2, .int .u32 ((0 : UInt32).toNat : Int)), (3, .int .u32 (x_2.toNat : Int)), (6, p0_0), (7, iV (x0.length : Int)), (8, iV x_3)] ∧ Sep w0 w_2 [N_2] Z ∧ Mem.no.le N_2) K ⟨(4294967295 : UInt32), 0, Mem.no, H, (h.to rfl), (hS.sel [0] (by decide)), mr⟩ (fun a w h => by obtain ⟨_, _, _, H, _⟩ := h; cases (show (none : Option (UInt32)) = some r from H)) ?_
 clear h hS a H
 rintro k_1 a w_2 KL_1 hKL_1 ⟨x_2, x_3, N_2, H, h, hS, le_2⟩
 replace H : crcs_Sum.B1 K x0 (fun v => crcs_Sum.J1 K v) (crcs_Sum.L1 K x0 (fun v => crcs_Sum.J1 K v) k_1) x_2 x_3 = some r := H
 unfold crcs_Sum.B1 at H
 refine qr <| s_cmp (b := decide (x_3 < (x0.length : Int))) h rfl rfl rfl (.inr (.inr (.inl ⟨rfl, rfl⟩))) fun a h=>wpList_nil ?_
 replace h : Fr 18 a [(2, _), (3, _), (6, _), (7, _), (8, _), (9, .bool (decide (x_3 < (x0.length : Int))))] := h.keep [2, 3, 6, 7, 8, 9]
 refine x_then_n <| c_seq fun KJ_2 hKJ_2 => ?_
 obtain ⟨hc_1, H⟩ | ⟨hc_1, H⟩ := ii H
 ·refine c_cond_t h rfl (dt hc_1) <| wp_skip <| x_then_n (hKJ_2 _ _ ?_)
  refine wp_seq <| c_block <| wp_seq <| wp_region_lit ?_
  obtain ⟨t_1, et_1, H⟩ := bs H
  refine v_index h rfl U22 ti5 rfl rfl rfl hp0_0 (hA.trans hS.old) et_1 fun ad_1 cs_1 hk_1 hc_2 => ?_
  obtain rfl := (show cs_1 = [.int .u8 (t_1.toNat : Int)] from hk_1)
  intro a h
  refine s_load h rfl rfl (el_one (o := 0) hc_2 U5 rfl rfl) fun a h=>sg h rfl fun a h=>nx <| wp_region_lit <| mv h rfl fun a h=>mv h rfl fun a h=>?_
  obtain ⟨t_2, et_2, H⟩ := bs H
  refine s_call h rfl Try.call74 rfl (crcs_Next.calls K x_2 t_1 t_2 w0 _ _ _ mr (hS.enter [] (by decide))  et_2) ?_
  rintro _ w_3 ⟨N_3, rfl, hS'⟩
  intro a h
  obtain ⟨N_4, hS'', le_3, ln_1⟩ := hS.call [] (by decide) rfl (l' := []) (ow := []) rfl hS'
  replace hS : Sep w0 w_3 [N_4] Z := hS''
  refine sg h rfl fun a h=>wpList_nil <| x_block_n <| x_then_n <| wp_region_lit <| s_arith (r := w64 (x_3 + 1)) h rfl rfl rfl (.inl ⟨rfl, rfl⟩) fun a h=>mv h rfl fun a h=>wpList_nil <| x_then_n (hKL_1 _ _ ?_)
  exact ⟨t_2, w64 (x_3 + 1), N_4, H, (h.to rfl), (hS.sel [0] (by decide)), (le_2.trans le_3)⟩
 ·refine c_cond_f h rfl (df hc_1) <| wp_exit (x_then_x (x_then_x (x_block_t ?_)))
  exact x_then_n (hJ_j_1 x_2 H _ _ ⟨N_2, (h.to rfl), (hS.sel [0] (by decide)), le_2⟩)

set_option maxHeartbeats 4000000 in
set_option maxRecDepth 20000 in
theorem fram_Sound.calls (K : Nat) (x0 : List UInt8) (p0_0 : Value) (r : (List UInt8) × Bool) (w0 w : World) (Z A : Mem) (hA : A.le Z) (hS : Sep w0 w [] Z) (hp0_0 : Rd Kd.u8 A p0_0 x0)
    (H : fram_Sound.f K x0 = some r) :
    Calls Try.prog 26 [p0_0].toArray w (Ret fun v w' => ∃ (u0 : Value) (N : Mem), v = .tuple [u0, .bool r.2].toArray ∧ Sep w0 w' [N] Z ∧ Rd Kd.u8 (A.un N) u0 r.1) := by
 unfold fram_Sound.f at H
 refine f_enter _ Try.func26 rfl Try.ntmps26 rfl fun a h=>?_
 replace h : Fr 37 a [(0, p0_0)] := h
 replace hS := hS.start
 refine qr <| sg h rfl fun a h=>sg h rfl fun a h=>nx <| c_seq fun KJ_1 hKJ_1 => qr <| mv h rfl fun a h=>s_len h rfl U22 rfl hp0_0 fun a h=>s_cmp (b := decide ((x0.length : Int) < 4)) h rfl rfl rfl (.inr (.inr (.inl ⟨rfl, rfl⟩))) fun a h=>?_
 refine wpList_nil <| x_then_n ?_
 obtain ⟨hc_1, H⟩ | ⟨hc_1, H⟩ := ii H
 ·refine c_cond_t h rfl (dt hc_1) <| qr <| sg h rfl fun a h=>sg h rfl fun a h=>nx <| wp_ret (x_then_r ?_)
  obtain rfl := Option.some.inj H
  exact f_ret h (rs := [.tmp 2, .tmp 3]) rfl (.tmp rfl (.tmp rfl .nil)) ⟨_, rfl, nS, Mem.no, rfl, (hS.sel [0] (by decide)), (Rd.nil _ _)⟩
 ·refine c_cond_f h rfl (df hc_1) <| wp_skip <| x_then_n (hKJ_1 _ _ ?_)
  refine c_seq fun KJ_2 hKJ_2 => h_begin (S := fun w => Sep w0 w [Mem.no] Z) 23 (by kernel_rfl) rfl (bA 23 0) (by kernel_rfl) hS fun w_1 hS => ?_
  refine t_take 0 (bA 23 1) rfl rfl rfl rfl h (hS.sub .ii) (v := p0_0) (fun w hS => r_move h rfl) fun a h=>?_
  obtain ⟨t_1, et_1, H⟩ := bs H
  refine t_takeE 1 (bA 23 3) rfl rfl rfl rfl h (hS.sub .ii) (f := fun ad => .pointer (some ad)) (r_index h U22 ti5 rfl rfl rfl hp0_0 et_1) ?_
  rintro ad_1 ⟨cs_1, hk_1, hc_2⟩
  obtain rfl := (show cs_1 = [.int .u8 (t_1.toNat : Int)] from hk_1)
  intro a h
  refine t_take 2 (bA 23 7) rfl rfl rfl rfl h (hS.sub .ii) (v := .int .u8 (t_1.toNat : Int)) (fun w hS => r_load h rfl (el_one (o := 0) (fun j c h => Mem.cell_le (hA.trans hS.old) (hc_2 j c h)) U5 rfl rfl)) fun a h=>t_take 3 (bA 23 15) rfl rfl rfl rfl h (hS.sub .ii) (v := .int .u32 ((toU32 (t_1.toNat : Int)).toNat : Int)) (fun w hS => r_conv (((toU32 (t_1.toNat : Int)).toNat : Int)) h U5 U65 rfl (wrap_u32 _).symm) fun a h=>t_take 4 (bA 23 31) rfl rfl rfl rfl h (hS.sub .ii) (v := p0_0) (fun w hS => r_move h rfl) fun a h=>?_
  obtain ⟨t_2, et_2, H⟩ := bs H
  refine t_takeE 5 (bA 23 63) rfl rfl rfl rfl h (hS.sub .ii) (f := fun ad => .pointer (some ad)) (r_index h U22 ti5 rfl rfl rfl hp0_0 et_2) ?_
  rintro ad_2 ⟨cs_2, hk_2, hc_3⟩
  obtain rfl := (show cs_2 = [.int .u8 (t_2.toNat : Int)] from hk_2)
  intro a h
  refine t_take 6 (bA 23 127) rfl rfl rfl rfl h (hS.sub .ii) (v := .int .u8 (t_2.toNat : Int)) (fun w hS => r_load h rfl (el_one (o := 0) (fun j c h => Mem.cell_le (hA.trans hS.old) (hc_3 j c h)) U5 rfl rfl)) fun a h=>t_take 7 (bA 23 255) rfl rfl rfl rfl h (hS.sub .ii) (v := .int .u32 ((toU32 (t_2.toNat : Int)).toNat : Int)) (fun w hS => r_conv (((toU32 (t_2.toNat : Int)).toNat : Int)) h U5 U65 rfl (wrap_u32 _).symm) fun a h=>t_take 8 (bA 23 511) rfl rfl rfl rfl h (hS.sub .ii) (v := .int .u32 ((toU32 (((toU32 (t_2.toNat : Int)).toNat : Int) * 2 ^ (min (8 : Int).toNat 32))).toNat : Int)) (fun w hS => r_shift (r := ((toU32 (((toU32 (t_2.toNat : Int)).toNat : Int) * 2 ^ (min (8 : Int).toNat 32))).toNat : Int)) h rfl rfl (by decide) (.inl ⟨rfl, (wrap_u32 _).symm⟩)) fun a h=>t_take 9 (bA 23 1023) rfl rfl rfl rfl h (hS.sub .ii) (v := .int .u32 (((toU32 (t_1.toNat : Int)) ||| (toU32 (((toU32 (t_2.toNat : Int)).toNat : Int) * 2 ^ (min (8 : Int).toNat 32)))).toNat : Int)) (fun w hS => r_bits (i := ((toU32 (t_1.toNat : Int)).toNat : Int)) (j := ((toU32 (((toU32 (t_2.toNat : Int)).toNat : Int) * 2 ^ (min (8 : Int).toNat 32))).toNat : Int)) (r := (((toU32 (t_1.toNat : Int)) ||| (toU32 (((toU32 (t_2.toNat : Int)).toNat : Int) * 2 ^ (min (8 : Int).toNat 32)))).toNat : Int)) h rfl rfl (.inr (.inl ⟨rfl, (bor32 _ _).symm⟩))) fun a h=>?_
  refine t_take 10 (bA 23 2047) rfl rfl rfl rfl h (hS.sub .ii) (v := p0_0) (fun w hS => r_move h rfl) fun a h=>?_
  obtain ⟨t_3, et_3, H⟩ := bs H
  refine t_takeE 11 (bA 23 4095) rfl rfl rfl rfl h (hS.sub .ii) (f := fun ad => .pointer (some ad)) (r_index h U22 ti5 rfl rfl rfl hp0_0 et_3) ?_
  rintro ad_3 ⟨cs_3, hk_3, hc_4⟩
  obtain rfl := (show cs_3 = [.int .u8 (t_3.toNat : Int)] from hk_3)
  intro a h
  refine t_take 12 (bA 23 8191) rfl rfl rfl rfl h (hS.sub .ii) (v := .int .u8 (t_3.toNat : Int)) (fun w hS => r_load h rfl (el_one (o := 0) (fun j c h => Mem.cell_le (hA.trans hS.old) (hc_4 j c h)) U5 rfl rfl)) fun a h=>t_take 13 (bA 23 16383) rfl rfl rfl rfl h (hS.sub .ii) (v := .int .u32 ((toU32 (t_3.toNat : Int)).toNat : Int)) (fun w hS => r_conv (((toU32 (t_3.toNat : Int)).toNat : Int)) h U5 U65 rfl (wrap_u32 _).symm) fun a h=>t_take 14 (bA 23 32767) rfl rfl rfl rfl h (hS.sub .ii) (v := .int .u32 ((toU32 (((toU32 (t_3.toNat : Int)).toNat : Int) * 2 ^ (min (16 : Int).toNat 32))).toNat : Int)) (fun w hS => r_shift (r := ((toU32 (((toU32 (t_3.toNat : Int)).toNat : Int) * 2 ^ (min (16 : Int).toNat 32))).toNat : Int)) h rfl rfl (by decide) (.inl ⟨rfl, (wrap_u32 _).symm⟩)) fun a h=>t_take 15 (bA 23 65535) rfl rfl rfl rfl h (hS.sub .ii) (v := .int .u32 ((((toU32 (t_1.toNat : Int)) ||| (toU32 (((toU32 (t_2.toNat : Int)).toNat : Int) * 2 ^ (min (8 : Int).toNat 32)))) ||| (toU32 (((toU32 (t_3.toNat : Int)).toNat : Int) * 2 ^ (min (16 : Int).toNat 32)))).toNat : Int)) (fun w hS => r_bits (i := (((toU32 (t_1.toNat : Int)) ||| (toU32 (((toU32 (t_2.toNat : Int)).toNat : Int) * 2 ^ (min (8 : Int).toNat 32)))).toNat : Int)) (j := ((toU32 (((toU32 (t_3.toNat : Int)).toNat : Int) * 2 ^ (min (16 : Int).toNat 32))).toNat : Int)) (r := ((((toU32 (t_1.toNat : Int)) ||| (toU32 (((toU32 (t_2.toNat : Int)).toNat : Int) * 2 ^ (min (8 : Int).toNat 32)))) ||| (toU32 (((toU32 (t_3.toNat : Int)).toNat : Int) * 2 ^ (min (16 : Int).toNat 32)))).toNat : Int)) h rfl rfl (.inr (.inl ⟨rfl, (bor32 _ _).symm⟩))) fun a h=>?_
  refine t_take 16 (bA 23 131071) rfl rfl rfl rfl h (hS.sub .ii) (v := p0_0) (fun w hS => r_move h rfl) fun a h=>?_
  obtain ⟨t_4, et_4, H⟩ := bs H
  refine t_takeE 17 (bA 23 262143) rfl rfl rfl rfl h (hS.sub .ii) (f := fun ad => .pointer (some ad)) (r_index h U22 ti5 rfl rfl rfl hp0_0 et_4) ?_
  rintro ad_4 ⟨cs_4, hk_4, hc_5⟩
  obtain rfl := (show cs_4 = [.int .u8 (t_4.toNat : Int)] from hk_4)
  intro a h
  refine t_take 18 (bA 23 524287) rfl rfl rfl rfl h (hS.sub .ii) (v := .int .u8 (t_4.toNat : Int)) (fun w hS => r_load h rfl (el_one (o := 0) (fun j c h => Mem.cell_le (hA.trans hS.old) (hc_5 j c h)) U5 rfl rfl)) fun a h=>t_take 19 (bA 23 1048575) rfl rfl rfl rfl h (hS.sub .ii) (v := .int .u32 ((toU32 (t_4.toNat : Int)).toNat : Int)) (fun w hS => r_conv (((toU32 (t_4.toNat : Int)).toNat : Int)) h U5 U65 rfl (wrap_u32 _).symm) fun a h=>t_take 20 (bA 23 2097151) rfl rfl rfl rfl h (hS.sub .ii) (v := .int .u32 ((toU32 (((toU32 (t_4.toNat : Int)).toNat : Int) * 2 ^ (min (24 : Int).toNat 32))).toNat : Int)) (fun w hS => r_shift (r := ((toU32 (((toU32 (t_4.toNat : Int)).toNat : Int) * 2 ^ (min (24 : Int).toNat 32))).toNat : Int)) h rfl rfl (by decide) (.inl ⟨rfl, (wrap_u32 _).symm⟩)) fun a h=>t_take 21 (bA 23 4194303) rfl rfl rfl rfl h (hS.sub .ii) (v := .int .u32 (((((toU32 (t_1.toNat : Int)) ||| (toU32 (((toU32 (t_2.toNat : Int)).toNat : Int) * 2 ^ (min (8 : Int).toNat 32)))) ||| (toU32 (((toU32 (t_3.toNat : Int)).toNat : Int) * 2 ^ (min (16 : Int).toNat 32)))) ||| (toU32 (((toU32 (t_4.toNat : Int)).toNat : Int) * 2 ^ (min (24 : Int).toNat 32)))).toNat : Int)) (fun w hS => r_bits (i := ((((toU32 (t_1.toNat : Int)) ||| (toU32 (((toU32 (t_2.toNat : Int)).toNat : Int) * 2 ^ (min (8 : Int).toNat 32)))) ||| (toU32 (((toU32 (t_3.toNat : Int)).toNat : Int) * 2 ^ (min (16 : Int).toNat 32)))).toNat : Int)) (j := ((toU32 (((toU32 (t_4.toNat : Int)).toNat : Int) * 2 ^ (min (24 : Int).toNat 32))).toNat : Int)) (r := (((((toU32 (t_1.toNat : Int)) ||| (toU32 (((toU32 (t_2.toNat : Int)).toNat : Int) * 2 ^ (min (8 : Int).toNat 32)))) ||| (toU32 (((toU32 (t_3.toNat : Int)).toNat : Int) * 2 ^ (min (16 : Int).toNat 32)))) ||| (toU32 (((toU32 (t_4.toNat : Int)).toNat : Int) * 2 ^ (min (24 : Int).toNat 32)))).toNat : Int)) h rfl rfl (.inr (.inl ⟨rfl, (bor32 _ _).symm⟩))) fun a h=>?_
  refine t_take 22 (bA 23 8388607) rfl rfl rfl rfl h (hS.sub .ii) (v := .int .u32 (((((toU32 (t_1.toNat : Int)) ||| (toU32 (((toU32 (t_2.toNat : Int)).toNat : Int) * 2 ^ (min (8 : Int).toNat 32)))) ||| (toU32 (((toU32 (t_3.toNat : Int)).toNat : Int) * 2 ^ (min (16 : Int).toNat 32)))) ||| (toU32 (((toU32 (t_4.toNat : Int)).toNat : Int) * 2 ^ (min (24 : Int).toNat 32)))).toNat : Int)) (fun w hS => r_assign h rfl) fun a h=>h_done (by kernel_rfl) <| x_then_n (hKJ_2 _ _ ?_)
  refine c_seq fun KJ_3 hKJ_3 => h_begin (S := fun w => Sep w0 w [Mem.no] Z) 9 (by kernel_rfl) rfl (bA 9 0) (by kernel_rfl) hS fun w_2 hS => ?_
  refine t_take 0 (bA 9 1) rfl rfl rfl rfl h (hS.sub .ii) (v := p0_0) (fun w hS => r_move h rfl) fun a h=>?_
  obtain ⟨t_5, et_5, H⟩ := bs H
  refine t_takeE 1 (bA 9 3) rfl rfl rfl rfl h (hS.sub .ii) (f := fun v => v) (r_slice h U22 ti5 rfl rfl hp0_0 rfl rfl et_5) fun v_1 hr_1 a h => t_take 2 (bA 9 7) rfl rfl rfl rfl h (hS.sub .ii) (v := .int .u32 (((((toU32 (t_1.toNat : Int)) ||| (toU32 (((toU32 (t_2.toNat : Int)).toNat : Int) * 2 ^ (min (8 : Int).toNat 32)))) ||| (toU32 (((toU32 (t_3.toNat : Int)).toNat : Int) * 2 ^ (min (16 : Int).toNat 32)))) ||| (toU32 (((toU32 (t_4.toNat : Int)).toNat : Int) * 2 ^ (min (24 : Int).toNat 32)))).toNat : Int)) (fun w hS => r_move h rfl) fun a h=>t_take 3 (bA 9 15) rfl rfl rfl rfl h (hS.sub .ii) (v := p0_0) (fun w hS => r_move h rfl) fun a h=>?_
  obtain ⟨t_6, et_6, H⟩ := bs H
  refine t_takeE 4 (bA 9 31) rfl rfl rfl rfl h (hS.sub .ii) (f := fun v => v) (r_slice h U22 ti5 rfl rfl hp0_0 rfl rfl et_6) fun v_2 hr_2 a h => h_event 5 (bA 9 63) rfl (by kernel_rfl) (by kernel_rfl) ?_
  obtain ⟨t_7, et_7, H⟩ := bs H
  refine s_call h rfl Try.call53 rfl (crcs_Sum.calls K t_6 _ t_7 w0 _ _ _ mr (hS.enter [] (by decide)) (hr_2.mono (hA.trans (hS.le_zed []))) et_7) ?_
  rintro _ w_3 ⟨N_1, rfl, hS'⟩
  intro a h
  obtain ⟨N_2, hS'', le_1, ln_1⟩ := hS.call [] (by decide) rfl (l' := []) (ow := []) rfl hS'
  replace hS : Sep w0 w_3 [N_2] Z := hS''
  refine ne (hS.sub (.cons le_1 .ii)) fun hs => ?_
  refine t_take 6 (bA 9 127) rfl rfl rfl rfl h hs (v := .bool ((((((toU32 (t_1.toNat : Int)) ||| (toU32 (((toU32 (t_2.toNat : Int)).toNat : Int) * 2 ^ (min (8 : Int).toNat 32)))) ||| (toU32 (((toU32 (t_3.toNat : Int)).toNat : Int) * 2 ^ (min (16 : Int).toNat 32)))) ||| (toU32 (((toU32 (t_4.toNat : Int)).toNat : Int) * 2 ^ (min (24 : Int).toNat 32)))).toNat : Int) == (t_7.toNat : Int))) (fun w hS => r_cmp (b := ((((((toU32 (t_1.toNat : Int)) ||| (toU32 (((toU32 (t_2.toNat : Int)).toNat : Int) * 2 ^ (min (8 : Int).toNat 32)))) ||| (toU32 (((toU32 (t_3.toNat : Int)).toNat : Int) * 2 ^ (min (16 : Int).toNat 32)))) ||| (toU32 (((toU32 (t_4.toNat : Int)).toNat : Int) * 2 ^ (min (24 : Int).toNat 32)))).toNat : Int) == (t_7.toNat : Int))) h rfl rfl (.inl ⟨rfl, rfl⟩)) fun a h=>t_take 7 (bA 9 255) rfl rfl rfl rfl h hs (v := v_1) (fun w hS => r_assign h rfl) fun a h=>t_take 8 (bA 9 511) rfl rfl rfl rfl h hs (v := .bool ((((((toU32 (t_1.toNat : Int)) ||| (toU32 (((toU32 (t_2.toNat : Int)).toNat : Int) * 2 ^ (min (8 : Int).toNat 32)))) ||| (toU32 (((toU32 (t_3.toNat : Int)).toNat : Int) * 2 ^ (min (16 : Int).toNat 32)))) ||| (toU32 (((toU32 (t_4.toNat : Int)).toNat : Int) * 2 ^ (min (24 : Int).toNat 32)))).toNat : Int) == (t_7.toNat : Int))) (fun w hS => r_assign h rfl) fun a h=>?_
  refine h_done (by kernel_rfl) ?_
  replace h : Fr 37 a [(2, v_1), (3, .bool ((((((toU32 (t_1.toNat : Int)) ||| (toU32 (((toU32 (t_2.toNat : Int)).toNat : Int) * 2 ^ (min (8 : Int).toNat 32)))) ||| (toU32 (((toU32 (t_3.toNat : Int)).toNat : Int) * 2 ^ (min (16 : Int).toNat 32)))) ||| (toU32 (((toU32 (t_4.toNat : Int)).toNat : Int) * 2 ^ (min (24 : Int).toNat 32)))).toNat : Int) == (t_7.toNat : Int)))] := h.keep [2, 3]
  refine x_then_n (hKJ_3 _ _ ?_)
  refine wp_ret ?_
  obtain rfl := Option.some.inj H
  exact f_ret h (rs := [.tmp 2, .tmp 3]) rfl (.tmp rfl (.tmp rfl .nil)) ⟨_, rfl, v_1, N_2, rfl, (hS.sel [0] (by decide)), (hr_1.mono (Mem.le_un _ _))⟩

set_option maxHeartbeats 4000000 in
set_option maxRecDepth 20000 in
theorem pack_Read.calls (x0 : List UInt8) (p0_0 : Value) (r : (List UInt8) × Bool) (w0 w : World) (Z A : Mem) (hA : A.le Z) (hS : Sep w0 w [] Z) (hp0_0 : Rd Kd.u8 A p0_0 x0)
    (H : pack_Read.f x0 = some r) :
    Calls Try.prog 54 [p0_0].toArray w (Ret fun v w' => ∃ (u0 : Nat) (u1 : Value) (N : Mem), v = .pointer (some ⟨u0, 0, none⟩) ∧ Sep w0 w' [N, bx u0 112 [u1, .bool r.2]] Z ∧ Rd Kd.u8 N u1 r.1) := by
 unfold pack_Read.f at H
 refine f_enter _ Try.func54 rfl Try.ntmps54 rfl fun a h=>?_
 replace h : Fr 7 a [(0, p0_0)] := h
 replace hS := hS.start
 refine qr <| sg h rfl fun a h=>nx <| qr <| mv h rfl fun a h=>?_
 obtain ⟨t_1, et_1, H⟩ := bs H
 refine s_call h rfl Try.call35 rfl (slices_Clone_sbyte_byte.calls x0 _ t_1 w0 _ _ _ mr (hS.enter [] (by decide)) (hp0_0.mono (hA.trans (hS.le_zed []))) et_1) ?_
 rintro v_1 w_1 ⟨_, N_1, M_1, rfl, hS', hr_1⟩
 intro a h
 obtain ⟨N_2, hS'', le_1, ln_1⟩ := hS.call [] (by decide) rfl (l' := []) (ow := [_]) rfl hS'
 replace hS : Sep w0 w_1 [N_2, _] Z := hS''
 refine s_build h rfl ti112 pl112 rfl (.cons hr_1.cells .nil) (cs := [v_1, .bool false]) (by kernel_rfl) fun a h=>v_box (vs := [v_1, .bool false]) h rfl rfl rfl hS fun w_2 g_1 hS' a h => ?_
 replace hS : Sep w0 w_2 [_, _, bx g_1 112 [v_1, .bool false]] Z := hS'
 refine sg h rfl fun a h=>nx <| wp_ret ?_
 obtain ⟨N_3, hS', le_2, lo_1⟩ := hS.freeze 0 rfl
 replace hS : Sep w0 w_2 [N_3, Mem.no, _] Z := hS'
 obtain rfl := Option.some.inj H
 exact r1 h 2 rfl rfl ⟨_, rfl, g_1, v_1, N_3, rfl, (hS.sel [0, 2] (by decide)), (hr_1.rd lo_1 (Mem.no_le _))⟩

set_option maxHeartbeats 4000000 in
set_option maxRecDepth 20000 in
theorem pack_Reader_fail.calls (g0 : Nat) (x0_b : List UInt8) (p0_0 : Value) (x0_bad : Bool) (r : Int × (List UInt8) × Bool) (w0 w : World) (Z A : Mem) (hA : A.le Z) (hS : Sep w0 w [bx g0 112 [p0_0, .bool x0_bad]] Z) (hp0_0 : Rd Kd.u8 A p0_0 x0_b)
    (H : pack_Reader_fail.f x0_b x0_bad = some r) :
    Calls Try.prog 75 [.pointer (some ⟨g0, 0, none⟩)].toArray w (Ret fun v w' => ∃ (u0 : Value) (N : Mem), v = iV r.1 ∧ Sep w0 w' [N, bx g0 112 [u0, .bool r.2.2]] Z ∧ Rd Kd.u8 (A.un N) u0 r.2.1) := by
 unfold pack_Reader_fail.f at H
 refine f_enter _ Try.func75 rfl Try.ntmps75 rfl fun a h=>?_
 replace h : Fr 9 a [(0, .pointer (some ⟨g0, 0, none⟩))] := h
 replace hS := hS.start
 refine qr <| sg h rfl fun a h=>nx <| qr <| mv h rfl fun a h=>mv h rfl fun a h=>s_nilCheck h rfl rfl fun a h=>s_fieldAddr h rfl U112 rfl ti22 rfl rfl fun a h=>?_
 refine sto 1 h rfl rfl hS rfl ti22 rfl rfl rfl (oz rfl) fun w_1 hS' => ?_
 replace hS : Sep w0 w_1 [_, bx g0 112 [nS, _]] Z := hS'
 refine s_nilCheck h rfl rfl fun a h=>s_fieldAddr h rfl U112 rfl ti4 rfl rfl fun a h=>?_
 refine sto 1 h rfl rfl hS rfl ti4 rfl rfl rfl (oz rfl) fun w_2 hS' => ?_
 replace hS : Sep w0 w_2 [_, bx g0 112 [_, .bool true]] Z := hS'
 refine nx <| qr <| sg h rfl fun a h=>nx <| wp_ret ?_
 obtain rfl := Option.some.inj H
 exact r1 h 2 rfl rfl ⟨_, rfl, nS, Mem.no, rfl, (hS.sel [0, 1] (by decide)), (Rd.nil _ _)⟩

set_option maxHeartbeats 4000000 in
set_option maxRecDepth 20000 in
theorem pack_Reader_Num.calls (K : Nat) (g0 : Nat) (x0_b : List UInt8) (p0_0 : Value) (x0_bad : Bool) (x1 : Int) (r : Int × (List UInt8) × Bool) (w0 w : World) (Z A : Mem) (hA : A.le Z) (hS : Sep w0 w [bx g0 112 [p0_0, .bool x0_bad]] Z) (hp0_0 : Rd Kd.u8 A p0_0 x0_b)
    (H : pack_Reader_Num.f K x0_b x0_bad x1 = some r) :
    Calls Try.prog 55 [.pointer (some ⟨g0, 0, none⟩), iV x1].toArray w (Ret fun v w' => ∃ (u0 : Value) (N : Mem), v = iV r.1 ∧ Sep w0 w' [N, bx g0 112 [u0, .bool r.2.2]] Z ∧ Rd Kd.u8 (A.un N) u0 r.2.1) := by
 unfold pack_Reader_Num.f at H
 refine f_enter _ Try.func55 rfl Try.ntmps55 rfl fun a h=>?_
 replace h : Fr 56 a [(0, .pointer (some ⟨g0, 0, none⟩)), (1, iV x1)] := h
 replace hS := hS.start
 refine qr <| sg h rfl fun a h=>nx <| qr <| sg h rfl fun a h=>nx <| c_seq fun KJ_1 hKJ_1 => wp_seq <| wp_region_lit ?_
 refine mv h rfl fun a h=>s_nilCheck h rfl rfl fun a h=>s_fieldAddr h rfl U112 rfl ti22 rfl rfl fun a h=>s_load h rfl rfl (hS.load_one (p := 1) rfl U22 rfl rfl) fun a h=>s_len h rfl U22 rfl hp0_0 fun a h=>mv h rfl fun a h=>wpList_nil <| x_then_n ?_
 have hJ_j_1 : pack_Reader_Num.J1 K x0_b x0_bad = some r → ∀ (a : Act) (w_1 : World), (∃ (N_1 : Mem), Fr 56 a [(0, .pointer (some ⟨g0, 0, none⟩)), (4, iV 0)] ∧ Sep w0 w_1 [N_1, bx g0 112 [p0_0, .bool x0_bad]] Z ∧ Mem.no.le N_1) → KJ_1 a w_1 := by
  clear H h hS a
  rintro H a w_1 ⟨N_1, h, hS, le_1⟩
  unfold pack_Reader_Num.J1 at H
  refine hKJ_1 _ _ <| qr <| mv h rfl fun a h=>?_
  obtain ⟨t_1, et_1, H⟩ := bs H
  refine s_call h rfl Try.call75 rfl (pack_Reader_fail.calls _ x0_b _ x0_bad t_1 w0 _ _ A (hA.trans (hS.le_zed [0])) (hS.enter [0] (by decide)) hp0_0 et_1) ?_
  rintro _ w_2 ⟨v_1, N_2, rfl, hS', hr_1⟩
  intro a h
  obtain ⟨N_3, hS'', le_2, ln_1⟩ := hS.call [0] (by decide) rfl (l' := [_]) (ow := []) rfl hS'
  replace hS : Sep w0 w_2 [N_3, _] Z := hS''
  have hr_2 : Rd Kd.u8 (A.un N_3) v_1 t_1.2.1 := hr_1.mono (Mem.un_left ln_1)
  refine sg h rfl fun a h=>wpList_nil ?_
  replace h : Fr 56 a [(4, iV t_1.1)] := h.keep [4]
  refine x_then_n <| wp_ret ?_
  obtain rfl := Option.some.inj H
  exact r1 h 4 rfl rfl ⟨_, rfl, v_1, N_3, rfl, (hS.sel [0, 1] (by decide)), hr_2⟩
 clear hKJ_1
 refine c_block <| c_loop (fun k_1 a w_3 => ∃ (x_1 : Int) (x_2 : Int) (N_4 : Mem), pack_Reader_Num.L1 K x0_b x1 x0_bad (fun v => pack_Reader_Num.J1 K x0_b x0_bad) k_1 (x_1, x_2) = some r ∧ Fr 56 a [(0, .pointer (some ⟨g0, 0, none⟩)), (1, iV x1), (4, iV 0), (5, iV x_1), (11, p0_0), (12, iV (x0_b.length : Int)), (13, iV x_2)] ∧ Sep w0 w_3 [N_4, bx g0 112 [p0_0, .bool x0_bad]] Z ∧ Mem.no.le N_4) K ⟨0, 0, Mem.no, H, (h.to rfl), (hS.sel [0, 1] (by decide)), mr⟩ (fun a w h => by obtain ⟨_, _, _, H, _⟩ := h; cases (show (none : Option (Int × (List UInt8) × Bool)) = some r from H)) ?_
 clear h hS a H
 rintro k_1 a w_3 KL_1 hKL_1 ⟨x_1, x_2, N_4, H, h, hS, le_3⟩
 replace H : pack_Reader_Num.B1 K x0_b x1 x0_bad (fun v => pack_Reader_Num.J1 K x0_b x0_bad) (pack_Reader_Num.L1 K x0_b x1 x0_bad (fun v => pack_Reader_Num.J1 K x0_b x0_bad) k_1) x_1 x_2 = some r := H
 unfold pack_Reader_Num.B1 at H
 refine qr <| s_cmp (b := decide (x_2 < (x0_b.length : Int))) h rfl rfl rfl (.inr (.inr (.inl ⟨rfl, rfl⟩))) fun a h=>wpList_nil ?_
 replace h : Fr 56 a [(0, _), (1, _), (4, _), (5, _), (11, _), (12, _), (13, _), (14, .bool (decide (x_2 < (x0_b.length : Int))))] := h.keep [0, 1, 4, 5, 11, 12, 13, 14]
 refine x_then_n <| c_seq fun KJ_2 hKJ_2 => ?_
 obtain ⟨hc_1, H⟩ | ⟨hc_1, H⟩ := ii H
 ·refine c_cond_t h rfl (dt hc_1) <| wp_skip <| x_then_n (hKJ_2 _ _ ?_)
  refine wp_seq <| c_block <| qr <| mv h rfl fun a h=>?_
  obtain ⟨t_2, et_2, H⟩ := bs H
  refine v_index h rfl U22 ti5 rfl rfl rfl hp0_0 (hA.trans hS.old) et_2 fun ad_1 cs_1 hk_1 hc_2 => ?_
  obtain rfl := (show cs_1 = [.int .u8 (t_2.toNat : Int)] from hk_1)
  intro a h
  refine s_load h rfl rfl (el_one (o := 0) hc_2 U5 rfl rfl) fun a h=>sg h rfl fun a h=>sg h rfl fun a h=>nx <| c_seq fun KJ_3 hKJ_3 => c_seq fun KJ_4 hKJ_4 => ?_
  have hJ_j_2 : ∀ (x_3 : Bool), pack_Reader_Num.J2 K (fun v => pack_Reader_Num.J1 K x0_b x0_bad) x_2 t_2 (pack_Reader_Num.L1 K x0_b x1 x0_bad (fun v => pack_Reader_Num.J1 K x0_b x0_bad) k_1) x_1 x1 x0_b x0_bad x_3 = some r → ∀ (a : Act) (w_4 : World), (∃ (N_5 : Mem), Fr 56 a [(0, .pointer (some ⟨g0, 0, none⟩)), (1, iV x1), (4, iV 0), (5, iV x_1), (6, iV x_2), (7, .int .u8 (t_2.toNat : Int)), (11, p0_0), (12, iV (x0_b.length : Int)), (13, iV x_2), (27, .bool x_3)] ∧ Sep w0 w_4 [N_5, bx g0 112 [p0_0, .bool x0_bad]] Z ∧ N_4.le N_5) → KJ_4 a w_4 := by
   clear H h hS a
   rintro x_3 H a w_4 ⟨N_5, h, hS, le_4⟩
   unfold pack_Reader_Num.J2 at H
   refine hKJ_4 _ _ ?_
   obtain ⟨hc_3, H⟩ | ⟨hc_3, H⟩ := ii H
   ·refine c_cond_t h rfl hc_3 <| wp_exit (x_then_x (x_block_x rfl (x_then_x (x_then_x (x_block_t ?_)))))
    exact x_then_n (hJ_j_1  H _ _ ⟨N_5, (h.to rfl), (hS.sel [0, 1] (by decide)), (le_3.trans le_4)⟩)
   ·refine c_cond_f h rfl (ef hc_3) <| wp_skip <| x_then_n (hKJ_3 _ _ ?_)
    refine qr <| mv h rfl fun a h=>mv h rfl fun a h=>s_bits (i := (t_2.toNat : Int)) (j := ((127 : UInt8).toNat : Int)) (r := ((t_2 &&& (127 : UInt8)).toNat : Int)) h rfl rfl rfl (.inl ⟨rfl, (band8 _ _).symm⟩) fun a h=>s_conv (((t_2 &&& (127 : UInt8)).toNat : Int)) h rfl U5 U3 rfl (w64_nat8 _).symm fun a h=>mv h rfl fun a h=>s_arith (r := w64 (7 * x_2)) h rfl rfl rfl (.inr (.inr ⟨rfl, rfl⟩)) fun a h=>?_
    obtain ⟨u_1, eu_1, H⟩ := bs H
    refine s_shift (r := shl .i64 ((t_2 &&& (127 : UInt8)).toNat : Int) (w64 (7 * x_2))) h rfl rfl rfl (must_some eu_1) (.inl ⟨rfl, rfl⟩) fun a h=>s_bits (i := x_1) (j := shl .i64 ((t_2 &&& (127 : UInt8)).toNat : Int) (w64 (7 * x_2))) (r := bor .i64 x_1 (shl .i64 ((t_2 &&& (127 : UInt8)).toNat : Int) (w64 (7 * x_2)))) h rfl rfl rfl (.inr (.inl ⟨rfl, rfl⟩)) fun a h=>sg h rfl fun a h=>nx <| c_seq fun KJ_5 hKJ_5 => qr <| mv h rfl fun a h=>s_cmp (b := decide ((t_2.toNat : Int) ≥ ((128 : UInt8).toNat : Int))) h rfl rfl rfl (.inr (.inr (.inr (.inr (.inr ⟨rfl, rfl⟩))))) fun a h=>wpList_nil <| x_then_n ?_
    obtain ⟨hc_4, H⟩ | ⟨hc_4, H⟩ := ii H
    ·refine c_cond_t h rfl (dt hc_4) <| wp_exit (x_then_x (x_block_t ?_))
     refine x_then_n <| wp_region_lit <| s_arith (r := w64 (x_2 + 1)) h rfl rfl rfl (.inl ⟨rfl, rfl⟩) fun a h=>mv h rfl fun a h=>wpList_nil ?_
     replace h : Fr 56 a [(0, _), (1, _), (4, _), (5, iV (bor .i64 x_1 (shl .i64 ((t_2 &&& (127 : UInt8)).toNat : Int) (w64 (7 * x_2))))), (11, _), (12, _), (13, iV (w64 (x_2 + 1)))] := h.keep [0, 1, 4, 5, 11, 12, 13]
     refine x_then_n (hKL_1 _ _ ?_)
     exact ⟨bor .i64 x_1 (shl .i64 ((t_2 &&& (127 : UInt8)).toNat : Int) (w64 (7 * x_2))), w64 (x_2 + 1), N_5, H, (h.to rfl), (hS.sel [0, 1] (by decide)), (le_3.trans le_4)⟩
    ·refine c_cond_f h rfl (df hc_4) <| wp_skip <| x_then_n (hKJ_5 _ _ ?_)
     refine c_seq fun KJ_6 hKJ_6 => qr <| mv h rfl fun a h=>mv h rfl fun a h=>?_
     obtain ⟨t_3, et_3, H⟩ := bs H
     refine s_call h rfl Try.call52 rfl (pack_held.calls x1 t_3 w0 _ _ _ mr (hS.enter [] (by decide))  et_3) ?_
     rintro _ w_5 ⟨N_6, rfl, hS'⟩
     intro a h
     obtain ⟨N_7, hS'', le_5, ln_2⟩ := hS.call [] (by decide) rfl (l' := []) (ow := []) rfl hS'
     replace hS : Sep w0 w_5 [N_7, _] Z := hS''
     refine s_cmp (b := decide ((bor .i64 x_1 (shl .i64 ((t_2 &&& (127 : UInt8)).toNat : Int) (w64 (7 * x_2)))) > t_3)) h rfl rfl rfl (.inr (.inr (.inr (.inr (.inl ⟨rfl, rfl⟩))))) fun a h=>wpList_nil ?_
     replace h : Fr 56 a [(0, _), (1, _), (4, _), (5, iV (bor .i64 x_1 (shl .i64 ((t_2 &&& (127 : UInt8)).toNat : Int) (w64 (7 * x_2))))), (6, _), (11, _), (12, _), (13, _), (41, .bool (decide ((bor .i64 x_1 (shl .i64 ((t_2 &&& (127 : UInt8)).toNat : Int) (w64 (7 * x_2)))) > t_3)))] := h.keep [0, 1, 4, 5, 6, 11, 12, 13, 41]
     refine x_then_n ?_
     obtain ⟨hc_5, H⟩ | ⟨hc_5, H⟩ := ii H
     ·refine c_cond_t h rfl (dt hc_5) <| wp_exit (x_then_x (x_block_x rfl (x_then_x (x_then_x (x_block_t ?_)))))
      exact x_then_n (hJ_j_1  H _ _ ⟨N_7, (h.to rfl), (hS.sel [0, 1] (by decide)), (le_3.trans (le_4.trans le_5))⟩)
     ·refine c_cond_f h rfl (df hc_5) <| wp_skip <| x_then_n (hKJ_6 _ _ ?_)
      refine qr <| mv h rfl fun a h=>mv h rfl fun a h=>s_nilCheck h rfl rfl fun a h=>s_fieldAddr h rfl U112 rfl ti22 rfl rfl fun a h=>s_load h rfl rfl (hS.load_one (p := 1) rfl U22 rfl rfl) fun a h=>mv h rfl fun a h=>s_arith (r := w64 (x_2 + 1)) h rfl rfl rfl (.inl ⟨rfl, rfl⟩) fun a h=>?_
      obtain ⟨t_4, et_4, H⟩ := bs H
      refine s_slice h rfl U22 ti5 rfl rfl hp0_0 rfl rfl et_4 fun v_2 hr_3 a h => s_nilCheck h rfl rfl fun a h=>s_fieldAddr h rfl U112 rfl ti22 rfl rfl fun a h=>?_
      refine sto 1 h rfl rfl hS rfl ti22 hr_3.cellsA rfl rfl (oc hr_3.one on0) fun w_6 hS' => ?_
      replace hS : Sep w0 w_6 [_, bx g0 112 [v_2, _]] Z := hS'
      refine nx <| qr <| mv h rfl fun a h=>sg h rfl fun a h=>nx <| wp_ret (x_block_r (x_then_r (x_then_r (x_block_r (x_then_r ?_)))))
      obtain rfl := Option.some.inj H
      exact r1 h 4 rfl rfl ⟨_, rfl, v_2, N_7, rfl, (hS.sel [0, 1] (by decide)), (hr_3.mono (Mem.le_un _ _))⟩
  clear hKJ_4
  refine wp_region_lit <| mv h rfl fun a h=>s_cmp (b := decide (x_2 > 8)) h rfl rfl rfl (.inr (.inr (.inr (.inr (.inl ⟨rfl, rfl⟩))))) fun a h=>mv h rfl fun a h=>?_
  obtain ⟨hc_6, H⟩ | ⟨hc_6, H⟩ := ii H
  ·refine of h rfl rfl (dt hc_6) fun a h=>of h rfl rfl (dt hc_6) fun a h=>of h rfl rfl (dt hc_6) fun a h=>s_offu h rfl rfl rfl fun a h=>s_offu h rfl rfl rfl fun a h=>of h rfl rfl (dt hc_6) fun a h=>pt h rfl (dt hc_6) fun a h=>wpList_nil ?_
   exact x_then_n (hJ_j_2 true H _ _ ⟨N_4, (h.to rfl), (hS.sel [0, 1] (by decide)), mr⟩)
  ·refine s_on h rfl rfl (df hc_6) <| mv h rfl fun a h=>s_on h rfl rfl (df hc_6) <| s_cmp (b := ((t_2.toNat : Int) == ((0 : UInt8).toNat : Int))) h rfl rfl rfl (.inl ⟨rfl, rfl⟩) fun a h=>s_on h rfl rfl (df hc_6) <| mv h rfl fun a h=>?_
   obtain ⟨hc_7, H⟩ | ⟨hc_7, H⟩ := ii H
   ·refine s_on h rfl rfl (bt hc_7) <| mv h rfl fun a h=>s_on h rfl rfl (bt hc_7) <| s_cmp (b := decide (x_2 > 0)) h rfl rfl rfl (.inr (.inr (.inr (.inr (.inl ⟨rfl, rfl⟩))))) fun a h=>s_on h rfl rfl (df hc_6) <| pt h rfl (bt hc_7) fun a h=>pf h rfl (df hc_6) fun a h=>wpList_nil ?_
    exact x_then_n (hJ_j_2 (decide (x_2 > 0)) H _ _ ⟨N_4, (h.to rfl), (hS.sel [0, 1] (by decide)), mr⟩)
   ·refine of h rfl rfl (bf hc_7) fun a h=>of h rfl rfl (bf hc_7) fun a h=>s_on h rfl rfl (df hc_6) <| pf h rfl (bf hc_7) fun a h=>pf h rfl (df hc_6) fun a h=>wpList_nil ?_
    exact x_then_n (hJ_j_2 false H _ _ ⟨N_4, (h.to rfl), (hS.sel [0, 1] (by decide)), mr⟩)
 ·refine c_cond_f h rfl (df hc_1) <| wp_exit (x_then_x (x_then_x (x_block_t ?_)))
  exact x_then_n (hJ_j_1  H _ _ ⟨N_4, (h.to rfl), (hS.sel [0, 1] (by decide)), le_3⟩)

set_option maxHeartbeats 4000000 in
set_option maxRecDepth 20000 in
theorem pack_Reader_End.calls (g0 : Nat) (x0_b : List UInt8) (p0_0 : Value) (x0_bad : Bool) (r : Bool) (w0 w : World) (Z A : Mem) (hA : A.le Z) (hS : Sep w0 w [bx g0 112 [p0_0, .bool x0_bad]] Z) (hp0_0 : Rd Kd.u8 A p0_0 x0_b)
    (H : pack_Reader_End.f x0_b x0_bad = some r) :
    Calls Try.prog 59 [.pointer (some ⟨g0, 0, none⟩)].toArray w (Ret fun v w' => ∃ (N : Mem), v = .bool r ∧ Sep w0 w' [N, bx g0 112 [p0_0, .bool x0_bad]] Z) := by
 unfold pack_Reader_End.f at H
 refine f_enter _ Try.func59 rfl Try.ntmps59 rfl fun a h=>?_
 replace h : Fr 16 a [(0, .pointer (some ⟨g0, 0, none⟩))] := h
 replace hS := hS.start
 refine qr <| sg h rfl fun a h=>nx <| c_seq fun KJ_1 hKJ_1 => wp_region_lit <| mv h rfl fun a h=>s_nilCheck h rfl rfl fun a h=>s_fieldAddr h rfl U112 rfl ti4 rfl rfl fun a h=>s_load h rfl rfl (hS.load_one (p := 1) rfl U4 rfl rfl) fun a h=>s_not h rfl rfl fun a h=>?_
 refine mv h rfl fun a h=>?_
 obtain ⟨hc_1, H⟩ | ⟨hc_1, H⟩ := ii H
 ·refine of h rfl rfl (nf hc_1) fun a h=>of h rfl rfl (nf hc_1) fun a h=>of h rfl rfl (nf hc_1) fun a h=>of h rfl rfl (nf hc_1) fun a h=>of h rfl rfl (nf hc_1) fun a h=>of h rfl rfl (nf hc_1) fun a h=>pf h rfl (nf hc_1) fun a h=>sg h rfl fun a h=>wpList_nil <| x_then_n (hKJ_1 _ _ ?_)
  refine wp_ret ?_
  obtain rfl := Option.some.inj H
  exact r1 h 2 rfl rfl ⟨_, rfl, Mem.no, rfl, (hS.sel [0, 1] (by decide))⟩
 ·refine s_on h rfl rfl (nt (ef hc_1)) <| mv h rfl fun a h=>s_on h rfl rfl (nt (ef hc_1)) <| s_nilCheck h rfl rfl fun a h=>s_on h rfl rfl (nt (ef hc_1)) <| s_fieldAddr h rfl U112 rfl ti22 rfl rfl fun a h=>s_on h rfl rfl (nt (ef hc_1)) <| s_load h rfl rfl (hS.load_one (p := 1) rfl U22 rfl rfl) fun a h=>s_on h rfl rfl (nt (ef hc_1)) <| s_len h rfl U22 rfl hp0_0 fun a h=>s_on h rfl rfl (nt (ef hc_1)) <| s_cmp (b := ((x0_b.length : Int) == 0)) h rfl rfl rfl (.inl ⟨rfl, rfl⟩) fun a h=>?_
  refine pt h rfl (nt (ef hc_1)) fun a h=>sg h rfl fun a h=>wpList_nil <| x_then_n (hKJ_1 _ _ ?_)
  refine wp_ret ?_
  obtain rfl := Option.some.inj H
  exact r1 h 2 rfl rfl ⟨_, rfl, Mem.no, rfl, (hS.sel [0, 1] (by decide))⟩

set_option maxHeartbeats 4000000 in
set_option maxRecDepth 20000 in
theorem pack_Reader_Bytes.calls (K : Nat) (g0 : Nat) (x0_b : List UInt8) (p0_0 : Value) (x0_bad : Bool) (x1 : Int) (r : (List UInt8) × (List UInt8) × Bool) (w0 w : World) (Z A : Mem) (hA : A.le Z) (hS : Sep w0 w [bx g0 112 [p0_0, .bool x0_bad]] Z) (hp0_0 : Rd Kd.u8 A p0_0 x0_b)
    (H : pack_Reader_Bytes.f K x0_b x0_bad x1 = some r) :
    Calls Try.prog 57 [.pointer (some ⟨g0, 0, none⟩), iV x1].toArray w (Ret fun v w' => ∃ (u0 : Value) (u1 : Value) (N : Mem) (M0 : Mem), v = u0 ∧ Sep w0 w' [N, bx g0 112 [u1, .bool r.2.2], M0] Z ∧ Own Kd.u8 5 M0 Mem.no u0 r.1 ∧ Rd Kd.u8 (A.un N) u1 r.2.1) := by
 unfold pack_Reader_Bytes.f at H
 refine f_enter _ Try.func57 rfl Try.ntmps57 rfl fun a h=>?_
 replace h : Fr 36 a [(0, .pointer (some ⟨g0, 0, none⟩)), (1, iV x1)] := h
 replace hS := hS.start
 refine qr <| sg h rfl fun a h=>nx <| qr <| mv h rfl fun a h=>mv h rfl fun a h=>?_
 obtain ⟨t_1, et_1, H⟩ := bs H
 refine s_call h rfl Try.call55 rfl (pack_Reader_Num.calls K _ x0_b _ x0_bad x1 t_1 w0 _ _ A (hA.trans (hS.le_zed [0])) (hS.enter [0] (by decide)) hp0_0 et_1) ?_
 rintro _ w_1 ⟨v_1, N_1, rfl, hS', hr_1⟩
 intro a h
 obtain ⟨N_2, hS'', le_1, ln_1⟩ := hS.call [0] (by decide) rfl (l' := [_]) (ow := []) rfl hS'
 replace hS : Sep w0 w_1 [N_2, _] Z := hS''
 have hr_2 : Rd Kd.u8 (A.un N_2) v_1 t_1.2.1 := hr_1.mono (Mem.un_left ln_1)
 refine sg h rfl fun a h=>nx <| c_seq fun KJ_1 hKJ_1 => qr <| mv h rfl fun a h=>mv h rfl fun a h=>s_nilCheck h rfl rfl fun a h=>s_fieldAddr h rfl U112 rfl ti22 rfl rfl fun a h=>s_load h rfl rfl (hS.load_one (p := 1) rfl U22 rfl rfl) fun a h=>s_len h rfl U22 rfl hr_2 fun a h=>?_
 refine s_cmp (b := decide (t_1.1 > (t_1.2.1.length : Int))) h rfl rfl rfl (.inr (.inr (.inr (.inr (.inl ⟨rfl, rfl⟩))))) fun a h=>wpList_nil <| x_then_n ?_
 obtain ⟨hc_1, H⟩ | ⟨hc_1, H⟩ := ii H
 ·refine c_cond_t h rfl (dt hc_1) <| qr <| mv h rfl fun a h=>?_
  obtain ⟨t_2, et_2, H⟩ := bs H
  refine s_call h rfl Try.call75 rfl (pack_Reader_fail.calls _ t_1.2.1 _ t_1.2.2 t_2 w0 _ _ (A.un N_2) (Mem.un_le (hA.trans (hS.le_zed [0])) (hS.new_zed [0])) (hS.enter [0] (by decide)) hr_2 et_2) ?_
  rintro _ w_2 ⟨v_2, N_3, rfl, hS', hr_3⟩
  intro a h
  obtain ⟨N_4, hS'', le_2, ln_2⟩ := hS.call [0] (by decide) rfl (l' := [_]) (ow := []) rfl hS'
  replace hS : Sep w0 w_2 [N_4, _] Z := hS''
  have hr_4 : Rd Kd.u8 (A.un N_4) v_2 t_2.2.1 := hr_3.mono (Mem.un_le (Mem.un_left le_2) (ln_2.trans (hS.sndA hA)))
  refine wpList_nil ?_
  replace h : Fr 36 a [(0, _), (4, nS), (5, iV t_1.1)] := h.keep [0, 4, 5]
  refine x_then_n <| qr <| sg h rfl fun a h=>nx <| wp_ret (x_then_r ?_)
  have hS' := hS.room
  replace hS : Sep w0 w_2 [_, _, Mem.no] Z := hS'
  obtain rfl := Option.some.inj H
  exact r1 h 4 rfl rfl ⟨_, rfl, nS, v_2, N_4, Mem.no, rfl, (hS.sel [0, 1, 2] (by decide)), (Own.nil Kd.u8 5 Mem.no), hr_4⟩
 ·refine c_cond_f h rfl (df hc_1) <| wp_skip <| x_then_n (hKJ_1 _ _ ?_)
  refine qr <| mv h rfl fun a h=>s_nilCheck h rfl rfl fun a h=>s_fieldAddr h rfl U112 rfl ti22 rfl rfl fun a h=>s_load h rfl rfl (hS.load_one (p := 1) rfl U22 rfl rfl) fun a h=>mv h rfl fun a h=>?_
  obtain ⟨t_3, et_3, H⟩ := bs H
  refine s_slice h rfl U22 ti5 rfl rfl hr_2 rfl rfl et_3 fun v_3 hr_5 a h => ?_
  obtain ⟨t_4, et_4, H⟩ := bs H
  refine s_call h rfl Try.call35 rfl (slices_Clone_sbyte_byte.calls t_3 _ t_4 w0 _ _ _ mr (hS.enter [] (by decide)) (hr_5.mono (Mem.un_le (hA.trans (hS.le_zed [])) (mr.trans (hS.new_zed [])))) et_4) ?_
  rintro v_4 w_3 ⟨_, N_5, M_1, rfl, hS', hr_6⟩
  intro a h
  obtain ⟨N_6, hS'', le_3, ln_3⟩ := hS.call [] (by decide) rfl (l' := []) (ow := [_]) rfl hS'
  replace hS : Sep w0 w_3 [N_6, _, _] Z := hS''
  refine sg h rfl fun a h=>wpList_nil ?_
  replace h : Fr 36 a [(0, _), (4, nS), (5, iV t_1.1), (6, v_4)] := h.keep [0, 4, 5, 6]
  refine x_then_n <| qr <| mv h rfl fun a h=>mv h rfl fun a h=>s_nilCheck h rfl rfl fun a h=>s_fieldAddr h rfl U112 rfl ti22 rfl rfl fun a h=>s_load h rfl rfl (hS.load_one (p := 1) rfl U22 rfl rfl) fun a h=>mv h rfl fun a h=>?_
  obtain ⟨t_5, et_5, H⟩ := bs H
  refine s_slice h rfl U22 ti5 rfl rfl hr_2 rfl rfl et_5 fun v_5 hr_7 a h => s_nilCheck h rfl rfl fun a h=>s_fieldAddr h rfl U112 rfl ti22 rfl rfl fun a h=>?_
  refine sto 1 h rfl rfl hS rfl ti22 hr_7.cellsA rfl rfl (oc hr_7.one on0) fun w_4 hS' => ?_
  replace hS : Sep w0 w_4 [_, bx g0 112 [v_5, _], _] Z := hS'
  refine nx <| qr <| mv h rfl fun a h=>sg h rfl fun a h=>nx <| wp_ret ?_
  obtain rfl := Option.some.inj H
  exact r1 h 4 rfl rfl ⟨_, rfl, v_4, v_5, N_6, M_1, rfl, (hS.sel [0, 1, 2] (by decide)), hr_6, (hr_7.mono (Mem.un_left le_3))⟩

set_option maxHeartbeats 4000000 in
set_option maxRecDepth 20000 in
theorem mach_last.calls (K : Nat) (g0 : Nat) (x0_b : List UInt8) (p0_0 : Value) (x0_bad : Bool) (r : api_Last × (List UInt8) × Bool) (w0 w : World) (Z A : Mem) (hA : A.le Z) (hS : Sep w0 w [bx g0 112 [p0_0, .bool x0_bad]] Z) (hp0_0 : Rd Kd.u8 A p0_0 x0_b)
    (H : mach_last.f K x0_b x0_bad = some r) :
    Calls Try.prog 91 [.pointer (some ⟨g0, 0, none⟩)].toArray w (Ret fun v w' => ∃ (u0 : Value) (u1 : Value) (N : Mem) (M0 : Mem), v = .agg (E93 r.1 u0).toArray ∧ Sep w0 w' [N, bx g0 112 [u1, .bool r.2.2], M0] Z ∧ Own Kd.u8 5 M0 Mem.no u0 r.1.Result.Val ∧ Rd Kd.u8 (A.un N) u1 r.2.1) := by
 unfold mach_last.f at H
 refine f_enter _ Try.func91 rfl Try.ntmps91 rfl fun a h=>?_
 replace h : Fr 23 a [(0, .pointer (some ⟨g0, 0, none⟩))] := h
 replace hS := hS.start
 refine qr <| v_alloc h rfl ti93 hS fun w_1 g_1 hS' a h => ?_
 replace hS : Sep w0 w_1 [_, _, bx g_1 93 [iV 0, iV 0, iV 0, nS, iV 0]] Z := hS'
 refine nx <| qr <| mv h rfl fun a h=>?_
 obtain ⟨t_1, et_1, H⟩ := bs H
 refine s_call h rfl Try.call55 rfl (pack_Reader_Num.calls K _ x0_b _ x0_bad 1073741824 t_1 w0 _ _ A (hA.trans (hS.le_zed [0])) (hS.enter [0] (by decide)) hp0_0 et_1) ?_
 rintro _ w_2 ⟨v_1, N_1, rfl, hS', hr_1⟩
 intro a h
 obtain ⟨N_2, hS'', le_1, ln_1⟩ := hS.call [0] (by decide) rfl (l' := [_]) (ow := []) rfl hS'
 replace hS : Sep w0 w_2 [N_2, _, _] Z := hS''
 have hr_2 : Rd Kd.u8 (A.un N_2) v_1 t_1.2.1 := hr_1.mono (Mem.un_left ln_1)
 refine mv h rfl fun a h=>?_
 obtain ⟨t_2, et_2, H⟩ := bs H
 refine s_call h rfl Try.call55 rfl (pack_Reader_Num.calls K _ t_1.2.1 _ t_1.2.2 1073741824 t_2 w0 _ _ (A.un N_2) (Mem.un_le (hA.trans (hS.le_zed [0])) (hS.new_zed [0])) (hS.enter [0] (by decide)) hr_2 et_2) ?_
 rintro _ w_3 ⟨v_2, N_3, rfl, hS', hr_3⟩
 intro a h
 obtain ⟨N_4, hS'', le_2, ln_2⟩ := hS.call [0] (by decide) rfl (l' := [_]) (ow := []) rfl hS'
 replace hS : Sep w0 w_3 [N_4, _, _] Z := hS''
 have hr_4 : Rd Kd.u8 (A.un N_4) v_2 t_2.2.1 := hr_3.mono (Mem.un_le (Mem.un_left le_2) (ln_2.trans (hS.sndA hA)))
 refine s_build h rfl ti93 pl93 rfl (.cons rfl (.cons rfl .nil)) (cs := [iV t_1.1, iV t_2.1, iV 0, nS, iV 0]) (by kernel_rfl) fun a h=>v_alloc h rfl ti93 hS fun w_4 g_2 hS' a h => ?_
 replace hS : Sep w0 w_4 [_, _, _, bx g_2 93 [iV 0, iV 0, iV 0, nS, iV 0]] Z := hS'
 refine sto 3 h rfl rfl hS rfl ti93 rfl rfl rfl (oz rfl) fun w_5 hS' => ?_
 replace hS : Sep w0 w_5 [_, _, _, bx g_2 93 [iV t_1.1, iV t_2.1, _, _, _]] Z := hS'
 refine nx <| qr <| mv h rfl fun a h=>?_
 obtain ⟨t_3, et_3, H⟩ := bs H
 refine s_call h rfl Try.call55 rfl (pack_Reader_Num.calls K _ t_2.2.1 _ t_2.2.2 10 t_3 w0 _ _ (A.un N_4) (Mem.un_le (hA.trans (hS.le_zed [0])) (hS.new_zed [0])) (hS.enter [0] (by decide)) hr_4 et_3) ?_
 rintro _ w_6 ⟨v_3, N_5, rfl, hS', hr_5⟩
 intro a h
 obtain ⟨N_6, hS'', le_3, ln_3⟩ := hS.call [0] (by decide) rfl (l' := [_]) (ow := []) rfl hS'
 replace hS : Sep w0 w_6 [N_6, _, _, _] Z := hS''
 have hr_6 : Rd Kd.u8 (A.un N_6) v_3 t_3.2.1 := hr_5.mono (Mem.un_le (Mem.un_left le_3) (ln_3.trans (hS.sndA hA)))
 refine s_fieldAddr h rfl U93 rfl ti91 rfl rfl fun a h=>s_fieldAddr h rfl U91 rfl ti89 rfl rfl fun a h=>?_
 refine sto 3 h rfl rfl hS rfl ti89 rfl rfl rfl (oz rfl) fun w_7 hS' => ?_
 replace hS : Sep w0 w_7 [_, _, _, bx g_2 93 [_, _, iV t_3.1, _, _]] Z := hS'
 refine nx <| qr <| mv h rfl fun a h=>?_
 obtain ⟨t_4, et_4, H⟩ := bs H
 refine s_call h rfl Try.call55 rfl (pack_Reader_Num.calls K _ t_3.2.1 _ t_3.2.2 1073741825 t_4 w0 _ _ (A.un N_6) (Mem.un_le (hA.trans (hS.le_zed [0])) (hS.new_zed [0])) (hS.enter [0] (by decide)) hr_6 et_4) ?_
 rintro _ w_8 ⟨v_4, N_7, rfl, hS', hr_7⟩
 intro a h
 obtain ⟨N_8, hS'', le_4, ln_4⟩ := hS.call [0] (by decide) rfl (l' := [_]) (ow := []) rfl hS'
 replace hS : Sep w0 w_8 [N_8, _, _, _] Z := hS''
 have hr_8 : Rd Kd.u8 (A.un N_8) v_4 t_4.2.1 := hr_7.mono (Mem.un_le (Mem.un_left le_4) (ln_4.trans (hS.sndA hA)))
 refine s_arith (r := w64 (t_4.1 - 1)) h rfl rfl rfl (.inr (.inl ⟨rfl, rfl⟩)) fun a h=>s_fieldAddr h rfl U93 rfl ti91 rfl rfl fun a h=>s_fieldAddr h rfl U91 rfl ti3 rfl rfl fun a h=>?_
 refine sto 3 h rfl rfl hS rfl ti3 rfl rfl rfl (oz rfl) fun w_9 hS' => ?_
 replace hS : Sep w0 w_9 [_, _, _, bx g_2 93 [_, _, _, _, iV (w64 (t_4.1 - 1))]] Z := hS'
 refine wpList_nil ?_
 replace h : Fr 23 a [(0, _), (2, .pointer (some ⟨g_1, 0, none⟩)), (3, .pointer (some ⟨g_2, 0, none⟩))] := h.keep [0, 2, 3]
 refine x_then_n <| qr <| mv h rfl fun a h=>?_
 obtain ⟨t_5, et_5, H⟩ := bs H
 refine s_call h rfl Try.call57 rfl (pack_Reader_Bytes.calls K _ t_4.2.1 _ t_4.2.2 16 t_5 w0 _ _ (A.un N_8) (Mem.un_le (hA.trans (hS.le_zed [0])) (hS.new_zed [0])) (hS.enter [0] (by decide)) hr_8 et_5) ?_
 rintro v_5 w_10 ⟨_, v_6, N_9, M_1, rfl, hS', hr_9, hr_10⟩
 intro a h
 obtain ⟨N_10, hS'', le_5, ln_5⟩ := hS.call [0] (by decide) rfl (l' := [_]) (ow := [_]) rfl hS'
 replace hS : Sep w0 w_10 [N_10, _, _, _, _] Z := hS''
 have hr_11 : Rd Kd.u8 (A.un N_10) v_6 t_5.2.1 := hr_10.mono (Mem.un_le (Mem.un_left le_5) (ln_5.trans (hS.sndA hA)))
 refine s_fieldAddr h rfl U93 rfl ti91 rfl rfl fun a h=>s_fieldAddr h rfl U91 rfl ti22 rfl rfl fun a h=>?_
 refine sto 3 h rfl rfl hS rfl ti22 hr_9.cellsA rfl rfl (oc hr_9.one on0) fun w_11 hS' => ?_
 replace hS : Sep w0 w_11 [_, _, _, bx g_2 93 [_, _, _, v_5, _], _] Z := hS'
 refine nx <| qr <| s_load h rfl rfl (hS.load_agg (p := 3) (us := [iV t_1.1, iV t_2.1, iV t_3.1, v_5, iV (w64 (t_4.1 - 1))]) rfl U93 rfl ti93 rfl rfl) fun a h=>?_
 refine sto 2 h rfl rfl hS rfl ti93 rfl rfl rfl (oa 3 rfl (oc hr_9.one (oz rfl))) fun w_12 hS' => ?_
 replace hS : Sep w0 w_12 [_, _, bx g_1 93 [iV t_1.1, iV t_2.1, iV t_3.1, v_5, iV (w64 (t_4.1 - 1))], _, _] Z := hS'
 refine nx <| wp_ret ?_
 obtain rfl := Option.some.inj H
 exact f_ret h (rs := [.cell 2 93]) rfl (.cell rfl (hS.load_agg (p := 2) (us := [iV t_1.1, iV t_2.1, iV t_3.1, v_5, iV (w64 (t_4.1 - 1))]) rfl U93 rfl ti93 rfl rfl) .nil) ⟨_, rfl, v_5, v_6, N_10, M_1, rfl, (hS.sel [0, 1, 4] (by decide)), hr_9, hr_11⟩

set_option maxHeartbeats 4000000 in
set_option maxRecDepth 20000 in
theorem mach_read.calls (K : Nat) (g0 : Nat) (x0_b : List UInt8) (p0_0 : Value) (x0_bad : Bool) (r : api_Machine × (List UInt8) × Bool) (w0 w : World) (Z A : Mem) (hA : A.le Z) (hS : Sep w0 w [bx g0 112 [p0_0, .bool x0_bad]] Z) (hp0_0 : Rd Kd.u8 A p0_0 x0_b)
    (H : mach_read.f K x0_b x0_bad = some r) :
    Calls Try.prog 76 [.pointer (some ⟨g0, 0, none⟩)].toArray w (Ret fun v w' => ∃ (u0 : Value) (u1 : Value) (u2 : Value) (u3 : Value) (u4 : Value) (u5 : Value) (N : Mem) (M0 : Mem) (M1 : Mem) (M2 : Mem) (M3 : Mem) (M4 : Mem), v = .agg [u0, u1, u2, u3, u4].toArray ∧ Sep w0 w' [N, bx g0 112 [u5, .bool r.2.2], M0, M1, M2, M3, M4] Z ∧ Own Kd.u8 5 M0 Mem.no u0 r.1.Objects.Reg ∧ Own (Kd.slice Kd.u8) 22 M1 N u1 r.1.Objects.Queue ∧ Own (Kd.int .i64) 3 M2 Mem.no u2 r.1.Objects.Lock ∧ Own k_api_Pair 88 M3 N u3 r.1.Objects.Map ∧ Own k_api_Last 93 M4 N u4 r.1.Table ∧ Rd Kd.u8 (A.un N) u5 r.2.1) := by
 unfold mach_read.f at H
 refine f_enter _ Try.func76 rfl Try.ntmps76 rfl fun a h=>?_
 replace h : Fr 66 a [(0, .pointer (some ⟨g0, 0, none⟩))] := h
 replace hS := hS.start
 refine qr <| v_alloc h rfl ti35 hS fun w_1 g_1 hS' a h => ?_
 replace hS : Sep w0 w_1 [_, _, bx g_1 35 [nS, nS, nS, nS, nS]] Z := hS'
 refine nx <| qr <| v_alloc h rfl ti35 hS fun w_2 g_2 hS' a h => ?_
 replace hS : Sep w0 w_2 [_, _, _, bx g_2 35 [nS, nS, nS, nS, nS]] Z := hS'
 refine nx <| qr <| mv h rfl fun a h=>?_
 obtain ⟨t_1, et_1, H⟩ := bs H
 refine s_call h rfl Try.call57 rfl (pack_Reader_Bytes.calls K _ x0_b _ x0_bad 16 t_1 w0 _ _ A (hA.trans (hS.le_zed [0])) (hS.enter [0] (by decide)) hp0_0 et_1) ?_
 rintro v_1 w_3 ⟨_, v_2, N_1, M_1, rfl, hS', hr_1, hr_2⟩
 intro a h
 obtain ⟨N_2, hS'', le_1, ln_1⟩ := hS.call [0] (by decide) rfl (l' := [_]) (ow := [_]) rfl hS'
 replace hS : Sep w0 w_3 [N_2, _, _, _, _] Z := hS''
 have hr_3 : Rd Kd.u8 (A.un N_2) v_2 t_1.2.1 := hr_2.mono (Mem.un_left ln_1)
 refine s_fieldAddr h rfl U35 rfl ti32 rfl rfl fun a h=>s_fieldAddr h rfl U32 rfl ti22 rfl rfl fun a h=>?_
 refine sto 3 h rfl rfl hS rfl ti22 hr_1.cellsA rfl rfl (oc hr_1.one on0) fun w_4 hS' => ?_
 replace hS : Sep w0 w_4 [_, _, _, bx g_2 35 [v_1, _, _, _, _], _] Z := hS'
 refine nx <| c_seq fun KJ_1 hKJ_1 => qr <| mv h rfl fun a h=>?_
 obtain ⟨t_2, et_2, H⟩ := bs H
 refine s_call h rfl Try.call55 rfl (pack_Reader_Num.calls K _ t_1.2.1 _ t_1.2.2 8 t_2 w0 _ _ (A.un N_2) (Mem.un_le (hA.trans (hS.le_zed [0])) (hS.new_zed [0])) (hS.enter [0] (by decide)) hr_3 et_2) ?_
 rintro _ w_5 ⟨v_3, N_3, rfl, hS', hr_4⟩
 intro a h
 obtain ⟨N_4, hS'', le_2, ln_2⟩ := hS.call [0] (by decide) rfl (l' := [_]) (ow := []) rfl hS'
 replace hS : Sep w0 w_5 [N_4, _, _, _, _] Z := hS''
 have hr_5 : Rd Kd.u8 (A.un N_4) v_3 t_2.2.1 := hr_4.mono (Mem.un_le (Mem.un_left le_2) (ln_2.trans (hS.sndA hA)))
 refine mv h rfl fun a h=>wpList_nil ?_
 replace h : Fr 66 a [(0, _), (2, .pointer (some ⟨g_1, 0, none⟩)), (3, .pointer (some ⟨g_2, 0, none⟩)), (9, iV t_2.1), (10, iV 0)] := h.keep [0, 2, 3, 9, 10]
 refine x_then_n ?_
 have hJ_j_1 : ∀ (x_1 : List UInt8), ∀ (x_2 : Bool), ∀ (x_3 : List (List UInt8)), mach_read.J1 K t_1 x_1 x_2 x_3 = some r → ∀ (a : Act) (w_6 : World), (∃ (v_4 : Value) (v_5 : Value) (N_5 : Mem) (M_2 : Mem), Fr 66 a [(0, .pointer (some ⟨g0, 0, none⟩)), (2, .pointer (some ⟨g_1, 0, none⟩)), (3, .pointer (some ⟨g_2, 0, none⟩))] ∧ Sep w0 w_6 [N_5, bx g0 112 [v_4, .bool x_2], bx g_1 35 [nS, nS, nS, nS, nS], bx g_2 35 [v_1, v_5, nS, nS, nS], M_1, M_2] Z ∧ N_4.le N_5 ∧ Rd Kd.u8 (A.un N_5) v_4 x_1 ∧ Own (Kd.slice Kd.u8) 22 M_2 N_5 v_5 x_3) → KJ_1 a w_6 := by
  clear H h hS a
  rintro x_1 x_2 x_3 H a w_6 ⟨v_4, v_5, N_5, M_2, h, hS, le_3, hr_6, ho_1⟩
  unfold mach_read.J1 at H
  refine hKJ_1 _ _ <| c_seq fun KJ_2 hKJ_2 => qr <| mv h rfl fun a h=>?_
  obtain ⟨t_3, et_3, H⟩ := bs H
  refine s_call h rfl Try.call55 rfl (pack_Reader_Num.calls K _ x_1 _ x_2 5 t_3 w0 _ _ (A.un N_5) (Mem.un_le (hA.trans (hS.le_zed [0])) (hS.new_zed [0])) (hS.enter [0] (by decide)) hr_6 et_3) ?_
  rintro _ w_7 ⟨v_6, N_6, rfl, hS', hr_7⟩
  intro a h
  obtain ⟨N_7, hS'', le_4, ln_3⟩ := hS.call [0] (by decide) rfl (l' := [_]) (ow := []) rfl hS'
  replace hS : Sep w0 w_7 [N_7, _, _, _, _, _] Z := hS''
  have hr_8 : Rd Kd.u8 (A.un N_7) v_6 t_3.2.1 := hr_7.mono (Mem.un_le (Mem.un_left le_4) (ln_3.trans (hS.sndA hA)))
  refine mv h rfl fun a h=>wpList_nil <| x_then_n ?_
  have hJ_j_2 : ∀ (x_4 : List UInt8), ∀ (x_5 : Bool), ∀ (x_6 : List Int), mach_read.J2 K t_1 x_3 x_4 x_5 x_6 = some r → ∀ (a : Act) (w_8 : World), (∃ (v_7 : Value) (v_8 : Value) (N_8 : Mem) (M_3 : Mem), Fr 66 a [(0, .pointer (some ⟨g0, 0, none⟩)), (2, .pointer (some ⟨g_1, 0, none⟩)), (3, .pointer (some ⟨g_2, 0, none⟩))] ∧ Sep w0 w_8 [N_8, bx g0 112 [v_7, .bool x_5], bx g_1 35 [nS, nS, nS, nS, nS], bx g_2 35 [v_1, v_5, v_8, nS, nS], M_1, M_2, M_3] Z ∧ N_7.le N_8 ∧ Rd Kd.u8 (A.un N_8) v_7 x_4 ∧ Own (Kd.int .i64) 3 M_3 Mem.no v_8 x_6) → KJ_2 a w_8 := by
   clear H h hS a
   rintro x_4 x_5 x_6 H a w_8 ⟨v_7, v_8, N_8, M_3, h, hS, le_5, hr_9, ho_2⟩
   unfold mach_read.J2 at H
   refine hKJ_2 _ _ <| c_seq fun KJ_3 hKJ_3 => qr <| mv h rfl fun a h=>?_
   obtain ⟨t_4, et_4, H⟩ := bs H
   refine s_call h rfl Try.call55 rfl (pack_Reader_Num.calls K _ x_4 _ x_5 8 t_4 w0 _ _ (A.un N_8) (Mem.un_le (hA.trans (hS.le_zed [0])) (hS.new_zed [0])) (hS.enter [0] (by decide)) hr_9 et_4) ?_
   rintro _ w_9 ⟨v_9, N_9, rfl, hS', hr_10⟩
   intro a h
   obtain ⟨N_10, hS'', le_6, ln_4⟩ := hS.call [0] (by decide) rfl (l' := [_]) (ow := []) rfl hS'
   replace hS : Sep w0 w_9 [N_10, _, _, _, _, _, _] Z := hS''
   have hr_11 : Rd Kd.u8 (A.un N_10) v_9 t_4.2.1 := hr_10.mono (Mem.un_le (Mem.un_left le_6) (ln_4.trans (hS.sndA hA)))
   refine mv h rfl fun a h=>wpList_nil <| x_then_n ?_
   have hJ_j_3 : ∀ (x_7 : List UInt8), ∀ (x_8 : Bool), ∀ (x_9 : List api_Pair), mach_read.J3 K t_1 x_3 x_6 x_7 x_8 x_9 = some r → ∀ (a : Act) (w_10 : World), (∃ (v_10 : Value) (v_11 : Value) (N_11 : Mem) (M_4 : Mem), Fr 66 a [(0, .pointer (some ⟨g0, 0, none⟩)), (2, .pointer (some ⟨g_1, 0, none⟩)), (3, .pointer (some ⟨g_2, 0, none⟩))] ∧ Sep w0 w_10 [N_11, bx g0 112 [v_10, .bool x_8], bx g_1 35 [nS, nS, nS, nS, nS], bx g_2 35 [v_1, v_5, v_8, v_11, nS], M_1, M_2, M_3, M_4] Z ∧ N_10.le N_11 ∧ Rd Kd.u8 (A.un N_11) v_10 x_7 ∧ Own k_api_Pair 88 M_4 N_11 v_11 x_9) → KJ_3 a w_10 := by
    clear H h hS a
    rintro x_7 x_8 x_9 H a w_10 ⟨v_10, v_11, N_11, M_4, h, hS, le_7, hr_12, ho_3⟩
    unfold mach_read.J3 at H
    refine hKJ_3 _ _ <| c_seq fun KJ_4 hKJ_4 => qr <| mv h rfl fun a h=>?_
    obtain ⟨t_5, et_5, H⟩ := bs H
    refine s_call h rfl Try.call55 rfl (pack_Reader_Num.calls K _ x_7 _ x_8 8 t_5 w0 _ _ (A.un N_11) (Mem.un_le (hA.trans (hS.le_zed [0])) (hS.new_zed [0])) (hS.enter [0] (by decide)) hr_12 et_5) ?_
    rintro _ w_11 ⟨v_12, N_12, rfl, hS', hr_13⟩
    intro a h
    obtain ⟨N_13, hS'', le_8, ln_5⟩ := hS.call [0] (by decide) rfl (l' := [_]) (ow := []) rfl hS'
    replace hS : Sep w0 w_11 [N_13, _, _, _, _, _, _, _] Z := hS''
    have hr_14 : Rd Kd.u8 (A.un N_13) v_12 t_5.2.1 := hr_13.mono (Mem.un_le (Mem.un_left le_8) (ln_5.trans (hS.sndA hA)))
    refine mv h rfl fun a h=>wpList_nil <| x_then_n ?_
    have hJ_j_4 : ∀ (x_10 : List UInt8), ∀ (x_11 : Bool), ∀ (x_12 : List api_Last), mach_read.J4 K t_1 x_3 x_6 x_9 x_10 x_11 x_12 = some r → ∀ (a : Act) (w_12 : World), (∃ (v_13 : Value) (v_14 : Value) (N_14 : Mem) (M_5 : Mem), Fr 66 a [(2, .pointer (some ⟨g_1, 0, none⟩)), (3, .pointer (some ⟨g_2, 0, none⟩))] ∧ Sep w0 w_12 [N_14, bx g0 112 [v_13, .bool x_11], bx g_1 35 [nS, nS, nS, nS, nS], bx g_2 35 [v_1, v_5, v_8, v_11, v_14], M_1, M_2, M_3, M_4, M_5] Z ∧ N_13.le N_14 ∧ Rd Kd.u8 (A.un N_14) v_13 x_10 ∧ Own k_api_Last 93 M_5 N_14 v_14 x_12) → KJ_4 a w_12 := by
     clear H h hS a
     rintro x_10 x_11 x_12 H a w_12 ⟨v_13, v_14, N_14, M_5, h, hS, le_9, hr_15, ho_4⟩
     unfold mach_read.J4 at H
     refine hKJ_4 _ _ <| qr <| s_load h rfl rfl (hS.load_agg (p := 3) (us := [v_1, v_5, v_8, v_11, v_14]) rfl U35 rfl ti35 rfl rfl) fun a h=>?_
     refine sto 2 h rfl rfl hS rfl ti35 rfl rfl rfl (oc hr_1.one (oc ho_1.one (oc ho_2.one (oc ho_3.one (oc ho_4.one on0))))) fun w_13 hS' => ?_
     replace hS : Sep w0 w_13 [_, _, bx g_1 35 [v_1, v_5, v_8, v_11, v_14], _, _, _, _, _, _] Z := hS'
     refine wpList_nil ?_
     replace h : Fr 66 a [(2, _)] := h.keep [2]
     refine x_then_n <| wp_ret ?_
     obtain rfl := Option.some.inj H
     exact f_ret h (rs := [.cell 2 35]) rfl (.cell rfl (hS.load_agg (p := 2) (us := [v_1, v_5, v_8, v_11, v_14]) rfl U35 rfl ti35 rfl rfl) .nil) ⟨_, rfl, v_1, v_5, v_8, v_11, v_14, v_13, N_14, M_1, M_2, M_3, M_4, M_5, rfl, (hS.sel [0, 1, 4, 5, 6, 7, 8] (by decide)), hr_1, (ho_1.mono (le_4.trans (le_5.trans (le_6.trans (le_7.trans (le_8.trans le_9)))))), ho_2, (ho_3.mono (le_8.trans le_9)), (ho_4.mono mr), hr_15⟩
    clear hKJ_4
    have hS' := hS.room
    replace hS : Sep w0 w_11 [_, _, _, _, _, _, _, _, Mem.no] Z := hS'
    refine c_block <| c_loop (fun k_1 a w_14 => ∃ (x_13 : Int) (x_14 : List UInt8) (x_15 : Bool) (x_16 : List api_Last) (v_15 : Value) (v_16 : Value) (N_15 : Mem) (M_6 : Mem), mach_read.L1 K t_5 (fun v => mach_read.J4 K t_1 x_3 x_6 x_9 v.1 v.2.1 v.2.2) k_1 (x_13, x_14, x_15, x_16) = some r ∧ Fr 66 a [(0, .pointer (some ⟨g0, 0, none⟩)), (2, .pointer (some ⟨g_1, 0, none⟩)), (3, .pointer (some ⟨g_2, 0, none⟩)), (54, iV t_5.1), (55, iV x_13)] ∧ Sep w0 w_14 [N_15, bx g0 112 [v_15, .bool x_15], bx g_1 35 [nS, nS, nS, nS, nS], bx g_2 35 [v_1, v_5, v_8, v_11, v_16], M_1, M_2, M_3, M_4, M_6] Z ∧ N_13.le N_15 ∧ Rd Kd.u8 (A.un N_15) v_15 x_14 ∧ Own k_api_Last 93 M_6 N_15 v_16 x_16) K ⟨0, t_5.2.1, t_5.2.2, ([] : List api_Last), v_12, nS, N_13, Mem.no, H, (h.to rfl), (hS.sel [0, 1, 2, 3, 4, 5, 6, 7, 8] (by decide)), mr, hr_14, ((Own.nil k_api_Last 93 N_13).mono mr)⟩ (fun a w h => by obtain ⟨_, _, _, _, _, _, _, _, H, _⟩ := h; cases (show (none : Option (api_Machine × (List UInt8) × Bool)) = some r from H)) ?_
    clear h hS a H
    rintro k_1 a w_14 KL_1 hKL_1 ⟨x_13, x_14, x_15, x_16, v_15, v_16, N_15, M_6, H, h, hS, le_10, hr_16, ho_5⟩
    replace H : mach_read.B1 K t_5 (fun v => mach_read.J4 K t_1 x_3 x_6 x_9 v.1 v.2.1 v.2.2) (mach_read.L1 K t_5 (fun v => mach_read.J4 K t_1 x_3 x_6 x_9 v.1 v.2.1 v.2.2) k_1) x_13 x_14 x_15 x_16 = some r := H
    unfold mach_read.B1 at H
    refine qr <| s_cmp (b := decide (x_13 < t_5.1)) h rfl rfl rfl (.inr (.inr (.inl ⟨rfl, rfl⟩))) fun a h=>wpList_nil ?_
    replace h : Fr 66 a [(0, _), (2, _), (3, _), (54, _), (55, _), (56, .bool (decide (x_13 < t_5.1)))] := h.keep [0, 2, 3, 54, 55, 56]
    refine x_then_n <| c_seq fun KJ_5 hKJ_5 => ?_
    obtain ⟨hc_1, H⟩ | ⟨hc_1, H⟩ := ii H
    ·refine c_cond_t h rfl (dt hc_1) <| wp_skip <| x_then_n (hKJ_5 _ _ ?_)
     refine c_seq fun KJ_6 hKJ_6 => c_block <| h_begin (S := fun w => Sep w0 w [N_15, Mem.no, bx g_1 35 [nS, nS, nS, nS, nS], Mem.no, M_1, M_2, M_3, M_4, Mem.no] Z) 8 (by kernel_rfl) rfl (bA 8 0) (by kernel_rfl) hS fun w_15 hS => ?_
     refine t_take 0 (bA 8 1) rfl rfl rfl rfl h (hS.sub (.cons mr (.zz (.rr (.zz (.rr (.rr (.rr (.rr (.zz .ii)))))))))) (v := .pointer (some ⟨g_2, 4, none⟩)) (fun w hS => r_fieldAddr h U35 rfl ti33 rfl rfl rfl) fun a h=>t_take 2 (bA 8 5) rfl rfl rfl rfl h (hS.sub (.cons mr (.zz (.rr (.zz (.rr (.rr (.rr (.rr (.zz .ii)))))))))) (v := .pointer (some ⟨g0, 0, none⟩)) (fun w hS => r_move h rfl) fun a h=>?_
     obtain ⟨t_6, et_6, H⟩ := bs H
     obtain ⟨t_7, et_7, H⟩ := bs H
     refine h_evs [1, 3] (by kernel_rfl) ⟨⟨_, (bA 8 7), rfl, by kernel_rfl, ?_⟩, ⟨_, (bA 8 13), rfl, by kernel_rfl, ?_⟩, trivial⟩
     ·refine s_load h rfl rfl (hS.load_one (p := 3) rfl U33 rfl rfl) fun a h=>wpList_nil <| x_then_n ⟨(hS.sub (.cons mr (.zz (.rr (.zz (.rr (.rr (.rr (.rr (.zz .ii)))))))))), ?_⟩
      refine h_event 3 (bA 8 15) rfl (by kernel_rfl) (by kernel_rfl) <| s_call h rfl Try.call91 rfl (mach_last.calls K _ x_14 _ x_15 t_6 w0 _ _ (A.un N_15) (Mem.un_le (hA.trans (hS.le_zed [0])) (hS.new_zed [0])) (hS.enter [0] (by decide)) hr_16 et_6) ?_
      rintro _ w_16 ⟨v_17, v_18, N_16, M_7, rfl, hS', hr_17, hr_18⟩
      intro a h
      obtain ⟨N_17, hS'', le_11, ln_6⟩ := hS.call [0] (by decide) rfl (l' := [_]) (ow := [_]) rfl hS'
      replace hS : Sep w0 w_16 [N_17, _, _, _, _, _, _, _, _, _] Z := hS''
      have hr_19 : Rd Kd.u8 (A.un N_17) v_18 t_6.2.1 := hr_18.mono (Mem.un_le (Mem.un_left le_11) (ln_6.trans (hS.sndA hA)))
      refine ne (hS.sub (.cons le_11 (.zz (.rr (.zz (.rr (.rr (.rr (.rr (.zz .nn)))))))))) fun hs => ?_
      refine h_event 4 (bA 8 31) rfl (by kernel_rfl) (by kernel_rfl) ?_
      obtain ⟨N_18, hS', le_12, lo_1⟩ := hS.freeze 8 rfl
      replace hS : Sep w0 w_16 [N_18, _, _, _, _, _, _, _, _, Mem.no] Z := hS'
      have hq_1 : Reps k_api_Last N_18 ([t_6.1] : List api_Last) _ := ((Reps.one (d := k_api_Last) (x := t_6.1) (k_api_Last.mk' (hr_17.rd lo_1 (Mem.no_le _)))).append (Reps.nil k_api_Last _))
      refine s_buildSlice h rfl U33 ti93 rfl rfl rfl (.cons rfl .nil) rfl rfl rfl hS hq_1 rfl fun w_17 v_19 M_8 hS' ho_6 a h => ?_
      replace hS : Sep w0 w_17 [_, _, _, _, _, _, _, _, _, _, M_8] Z := hS'
      refine ne (hS.sub (.cons (le_11.trans le_12) (.zz (.rr (.zz (.rr (.rr (.rr (.rr (.zz .nn)))))))))) fun hs => ?_
      refine h_event 5 (bA 8 63) rfl (by kernel_rfl) (by kernel_rfl) <| s_append (J := N_18) (I' := N_18) (p := 8) 2513169434916 h rfl rfl rfl U33 ti93 rfl rfl rfl rfl hS rfl ho_5 (ho_6.src (hS.own 10)) (le_11.trans le_12) mr et_7 fun w_18 v_20 M_9 hS' ho_7 a h => ?_
      replace hS : Sep w0 w_18 [_, _, _, _, _, _, _, _, M_9, _, _] Z := hS'
      refine ne (hS.sub (.cons (le_11.trans le_12) (.zz (.rr (.zz (.rr (.rr (.rr (.rr (.zz .nn)))))))))) fun hs => ?_
      refine t_take 6 (bA 8 127) rfl rfl rfl rfl h hs (v := .pointer (some ⟨g_2, 4, none⟩)) (fun w hS => r_fieldAddr h U35 rfl ti33 rfl rfl rfl) fun a h=>h_event 7 (bA 8 255) rfl (by kernel_rfl) (by kernel_rfl) ?_
      refine sto 3 h rfl rfl hS rfl ti33 ho_7.cellsA rfl rfl (oc ho_7.one on0) fun w_19 hS' => ?_
      replace hS : Sep w0 w_19 [_, _, _, bx g_2 35 [_, _, _, _, v_20], _, _, _, _, _, _, _] Z := hS'
      refine ne (hS.sub (.cons (le_11.trans le_12) (.zz (.rr (.zz (.rr (.rr (.rr (.rr (.zz .nn)))))))))) fun hs => ?_
      refine h_done (by kernel_rfl) <| x_block_n <| x_then_n (hKJ_6 _ _ ?_)
      refine wp_region_lit <| s_arith (r := w64 (x_13 + 1)) h rfl rfl rfl (.inl ⟨rfl, rfl⟩) fun a h=>mv h rfl fun a h=>wpList_nil <| x_then_n (hKL_1 _ _ ?_)
      exact ⟨w64 (x_13 + 1), t_6.2.1, t_6.2.2, t_7, v_18, v_20, N_18, M_9, H, (h.to rfl), (hS.sel [0, 1, 2, 3, 4, 5, 6, 7, 8] (by decide)), (le_10.trans (le_11.trans le_12)), (hr_19.mono (Mem.un_left le_12)), (ho_7.mono mr)⟩
     ·refine s_call h rfl Try.call91 rfl (mach_last.calls K _ x_14 _ x_15 t_6 w0 _ _ (A.un N_15) (Mem.un_le (hA.trans (hS.le_zed [0])) (hS.new_zed [0])) (hS.enter [0] (by decide)) hr_16 et_6) ?_
      rintro _ w_20 ⟨v_21, v_22, N_19, M_10, rfl, hS', hr_20, hr_21⟩
      intro a h
      obtain ⟨N_20, hS'', le_13, ln_7⟩ := hS.call [0] (by decide) rfl (l' := [_]) (ow := [_]) rfl hS'
      replace hS : Sep w0 w_20 [N_20, _, _, _, _, _, _, _, _, _] Z := hS''
      have hr_22 : Rd Kd.u8 (A.un N_20) v_22 t_6.2.1 := hr_21.mono (Mem.un_le (Mem.un_left le_13) (ln_7.trans (hS.sndA hA)))
      refine ne (hS.sub (.cons le_13 (.zz (.rr (.zz (.rr (.rr (.rr (.rr (.zz .nn)))))))))) fun hs => ?_
      refine h_evs [1, 4] (by kernel_rfl) ⟨⟨_, (bA 8 15), rfl, by kernel_rfl, ?_⟩, ⟨_, (bA 8 29), rfl, by kernel_rfl, ?_⟩, trivial⟩
      ·refine s_load h rfl rfl (hS.load_one (p := 3) rfl U33 rfl rfl) fun a h=>wpList_nil <| x_then_n ⟨(hS.sub (.cons le_13 (.zz (.rr (.zz (.rr (.rr (.rr (.rr (.zz .nn)))))))))), ?_⟩
       refine h_event 4 (bA 8 31) rfl (by kernel_rfl) (by kernel_rfl) ?_
       obtain ⟨N_21, hS', le_14, lo_2⟩ := hS.freeze 8 rfl
       replace hS : Sep w0 w_20 [N_21, _, _, _, _, _, _, _, _, Mem.no] Z := hS'
       have hq_2 : Reps k_api_Last N_21 ([t_6.1] : List api_Last) _ := ((Reps.one (d := k_api_Last) (x := t_6.1) (k_api_Last.mk' (hr_20.rd lo_2 (Mem.no_le _)))).append (Reps.nil k_api_Last _))
       refine s_buildSlice h rfl U33 ti93 rfl rfl rfl (.cons rfl .nil) rfl rfl rfl hS hq_2 rfl fun w_21 v_23 M_11 hS' ho_8 a h => ?_
       replace hS : Sep w0 w_21 [_, _, _, _, _, _, _, _, _, _, M_11] Z := hS'
       refine ne (hS.sub (.cons (le_13.trans le_14) (.zz (.rr (.zz (.rr (.rr (.rr (.rr (.zz .nn)))))))))) fun hs => ?_
       refine h_event 5 (bA 8 63) rfl (by kernel_rfl) (by kernel_rfl) <| s_append (J := N_21) (I' := N_21) (p := 8) 2513169434916 h rfl rfl rfl U33 ti93 rfl rfl rfl rfl hS rfl ho_5 (ho_8.src (hS.own 10)) (le_13.trans le_14) mr et_7 fun w_22 v_24 M_12 hS' ho_9 a h => ?_
       replace hS : Sep w0 w_22 [_, _, _, _, _, _, _, _, M_12, _, _] Z := hS'
       refine ne (hS.sub (.cons (le_13.trans le_14) (.zz (.rr (.zz (.rr (.rr (.rr (.rr (.zz .nn)))))))))) fun hs => ?_
       refine t_take 6 (bA 8 127) rfl rfl rfl rfl h hs (v := .pointer (some ⟨g_2, 4, none⟩)) (fun w hS => r_fieldAddr h U35 rfl ti33 rfl rfl rfl) fun a h=>h_event 7 (bA 8 255) rfl (by kernel_rfl) (by kernel_rfl) ?_
       refine sto 3 h rfl rfl hS rfl ti33 ho_9.cellsA rfl rfl (oc ho_9.one on0) fun w_23 hS' => ?_
       replace hS : Sep w0 w_23 [_, _, _, bx g_2 35 [_, _, _, _, v_24], _, _, _, _, _, _, _] Z := hS'
       refine ne (hS.sub (.cons (le_13.trans le_14) (.zz (.rr (.zz (.rr (.rr (.rr (.rr (.zz .nn)))))))))) fun hs => ?_
       refine h_done (by kernel_rfl) <| x_block_n <| x_then_n (hKJ_6 _ _ ?_)
       refine wp_region_lit <| s_arith (r := w64 (x_13 + 1)) h rfl rfl rfl (.inl ⟨rfl, rfl⟩) fun a h=>mv h rfl fun a h=>wpList_nil <| x_then_n (hKL_1 _ _ ?_)
       exact ⟨w64 (x_13 + 1), t_6.2.1, t_6.2.2, t_7, v_22, v_24, N_21, M_12, H, (h.to rfl), (hS.sel [0, 1, 2, 3, 4, 5, 6, 7, 8] (by decide)), (le_10.trans (le_13.trans le_14)), (hr_22.mono (Mem.un_left le_14)), (ho_9.mono mr)⟩
      ·obtain ⟨N_22, hS', le_15, lo_3⟩ := hS.freeze 8 rfl
       replace hS : Sep w0 w_20 [N_22, _, _, _, _, _, _, _, _, Mem.no] Z := hS'
       have hq_3 : Reps k_api_Last N_22 ([t_6.1] : List api_Last) _ := ((Reps.one (d := k_api_Last) (x := t_6.1) (k_api_Last.mk' (hr_20.rd lo_3 (Mem.no_le _)))).append (Reps.nil k_api_Last _))
       refine s_buildSlice h rfl U33 ti93 rfl rfl rfl (.cons rfl .nil) rfl rfl rfl hS hq_3 rfl fun w_24 v_25 M_13 hS' ho_10 a h => ?_
       replace hS : Sep w0 w_24 [_, _, _, _, _, _, _, _, _, _, M_13] Z := hS'
       refine ne (hS.sub (.cons (le_13.trans le_15) (.zz (.rr (.zz (.rr (.rr (.rr (.rr (.zz .nn)))))))))) fun hs => ?_
       refine h_event 1 (bA 8 31) rfl (by kernel_rfl) (by kernel_rfl) <| s_load h rfl rfl (hS.load_one (p := 3) rfl U33 rfl rfl) fun a h=>wpList_nil <| x_then_n ⟨(hS.sub (.cons (le_13.trans le_15) (.zz (.rr (.zz (.rr (.rr (.rr (.rr (.zz .nn)))))))))), ?_⟩
       refine h_event 5 (bA 8 63) rfl (by kernel_rfl) (by kernel_rfl) <| s_append (J := N_22) (I' := N_22) (p := 8) 2513169434916 h rfl rfl rfl U33 ti93 rfl rfl rfl rfl hS rfl ho_5 (ho_10.src (hS.own 10)) (le_13.trans le_15) mr et_7 fun w_25 v_26 M_14 hS' ho_11 a h => ?_
       replace hS : Sep w0 w_25 [_, _, _, _, _, _, _, _, M_14, _, _] Z := hS'
       refine ne (hS.sub (.cons (le_13.trans le_15) (.zz (.rr (.zz (.rr (.rr (.rr (.rr (.zz .nn)))))))))) fun hs => ?_
       refine t_take 6 (bA 8 127) rfl rfl rfl rfl h hs (v := .pointer (some ⟨g_2, 4, none⟩)) (fun w hS => r_fieldAddr h U35 rfl ti33 rfl rfl rfl) fun a h=>h_event 7 (bA 8 255) rfl (by kernel_rfl) (by kernel_rfl) ?_
       refine sto 3 h rfl rfl hS rfl ti33 ho_11.cellsA rfl rfl (oc ho_11.one on0) fun w_26 hS' => ?_
       replace hS : Sep w0 w_26 [_, _, _, bx g_2 35 [_, _, _, _, v_26], _, _, _, _, _, _, _] Z := hS'
       refine ne (hS.sub (.cons (le_13.trans le_15) (.zz (.rr (.zz (.rr (.rr (.rr (.rr (.zz .nn)))))))))) fun hs => ?_
       refine h_done (by kernel_rfl) <| x_block_n <| x_then_n (hKJ_6 _ _ ?_)
       refine wp_region_lit <| s_arith (r := w64 (x_13 + 1)) h rfl rfl rfl (.inl ⟨rfl, rfl⟩) fun a h=>mv h rfl fun a h=>wpList_nil <| x_then_n (hKL_1 _ _ ?_)
       exact ⟨w64 (x_13 + 1), t_6.2.1, t_6.2.2, t_7, v_22, v_26, N_22, M_14, H, (h.to rfl), (hS.sel [0, 1, 2, 3, 4, 5, 6, 7, 8] (by decide)), (le_10.trans (le_13.trans le_15)), (hr_22.mono (Mem.un_left le_15)), (ho_11.mono mr)⟩
    ·refine c_cond_f h rfl (df hc_1) <| wp_exit (x_then_x (x_then_x (x_block_t ?_)))
     exact x_then_n (hJ_j_4 x_14 x_15 x_16 H _ _ ⟨v_15, v_16, N_15, M_6, (h.to rfl), (hS.sel [0, 1, 2, 3, 4, 5, 6, 7, 8] (by decide)), le_10, hr_16, (ho_5.mono mr)⟩)
   clear hKJ_3
   have hS' := hS.room
   replace hS : Sep w0 w_9 [_, _, _, _, _, _, _, Mem.no] Z := hS'
   refine c_block <| c_loop (fun k_2 a w_27 => ∃ (x_17 : Int) (x_18 : List UInt8) (x_19 : Bool) (x_20 : List api_Pair) (v_27 : Value) (v_28 : Value) (N_23 : Mem) (M_15 : Mem), mach_read.L2 K t_4 (fun v => mach_read.J3 K t_1 x_3 x_6 v.1 v.2.1 v.2.2) k_2 (x_17, x_18, x_19, x_20) = some r ∧ Fr 66 a [(0, .pointer (some ⟨g0, 0, none⟩)), (2, .pointer (some ⟨g_1, 0, none⟩)), (3, .pointer (some ⟨g_2, 0, none⟩)), (37, iV t_4.1), (38, iV x_17)] ∧ Sep w0 w_27 [N_23, bx g0 112 [v_27, .bool x_19], bx g_1 35 [nS, nS, nS, nS, nS], bx g_2 35 [v_1, v_5, v_8, v_28, nS], M_1, M_2, M_3, M_15] Z ∧ N_10.le N_23 ∧ Rd Kd.u8 (A.un N_23) v_27 x_18 ∧ Own k_api_Pair 88 M_15 N_23 v_28 x_20) K ⟨0, t_4.2.1, t_4.2.2, ([] : List api_Pair), v_9, nS, N_10, Mem.no, H, (h.to rfl), (hS.sel [0, 1, 2, 3, 4, 5, 6, 7] (by decide)), mr, hr_11, ((Own.nil k_api_Pair 88 N_10).mono mr)⟩ (fun a w h => by obtain ⟨_, _, _, _, _, _, _, _, H, _⟩ := h; cases (show (none : Option (api_Machine × (List UInt8) × Bool)) = some r from H)) ?_
   clear h hS a H
   rintro k_2 a w_27 KL_2 hKL_2 ⟨x_17, x_18, x_19, x_20, v_27, v_28, N_23, M_15, H, h, hS, le_16, hr_23, ho_12⟩
   replace H : mach_read.B2 K t_4 (fun v => mach_read.J3 K t_1 x_3 x_6 v.1 v.2.1 v.2.2) (mach_read.L2 K t_4 (fun v => mach_read.J3 K t_1 x_3 x_6 v.1 v.2.1 v.2.2) k_2) x_17 x_18 x_19 x_20 = some r := H
   unfold mach_read.B2 at H
   refine qr <| s_cmp (b := decide (x_17 < t_4.1)) h rfl rfl rfl (.inr (.inr (.inl ⟨rfl, rfl⟩))) fun a h=>nx <| c_seq fun KJ_7 hKJ_7 => ?_
   obtain ⟨hc_2, H⟩ | ⟨hc_2, H⟩ := ii H
   ·refine c_cond_t h rfl (dt hc_2) <| wp_skip <| x_then_n (hKJ_7 _ _ ?_)
    refine c_seq fun KJ_8 hKJ_8 => c_block <| h_begin (S := fun w => Sep w0 w [N_23, Mem.no, bx g_1 35 [nS, nS, nS, nS, nS], Mem.no, M_1, M_2, M_3, Mem.no] Z) 13 (by kernel_rfl) rfl (bA 13 0) (by kernel_rfl) hS fun w_28 hS => ?_
    refine t_take 0 (bA 13 1) rfl rfl rfl rfl h (hS.sub (.cons mr (.zz (.rr (.zz (.rr (.rr (.rr (.zz .ii))))))))) (v := .pointer (some ⟨g_2, 0, none⟩)) (fun w hS => r_fieldAddr h U35 rfl ti32 rfl rfl rfl) fun a h=>t_take 1 (bA 13 3) rfl rfl rfl rfl h (hS.sub (.cons mr (.zz (.rr (.zz (.rr (.rr (.rr (.zz .ii))))))))) (v := .pointer (some ⟨g_2, 3, none⟩)) (fun w hS => r_fieldAddr h U32 rfl ti30 rfl rfl rfl) fun a h=>t_take 3 (bA 13 11) rfl rfl rfl rfl h (hS.sub (.cons mr (.zz (.rr (.zz (.rr (.rr (.rr (.zz .ii))))))))) (v := .pointer (some ⟨g0, 0, none⟩)) (fun w hS => r_move h rfl) fun a h=>t_take 5 (bA 13 43) rfl rfl rfl rfl h (hS.sub (.cons mr (.zz (.rr (.zz (.rr (.rr (.rr (.zz .ii))))))))) (v := .pointer (some ⟨g0, 0, none⟩)) (fun w hS => r_move h rfl) fun a h=>?_
    obtain ⟨t_8, et_8, H⟩ := bs H
    obtain ⟨t_9, et_9, H⟩ := bs H
    obtain ⟨t_10, et_10, H⟩ := bs H
    refine h_evs [2, 4] (by kernel_rfl) ⟨⟨_, (bA 13 47), rfl, by kernel_rfl, ?_⟩, ⟨_, (bA 13 59), rfl, by kernel_rfl, ?_⟩, trivial⟩
    ·refine s_load h rfl rfl (hS.load_one (p := 3) rfl U30 rfl rfl) fun a h=>wpList_nil <| x_then_n ⟨(hS.sub (.cons mr (.zz (.rr (.zz (.rr (.rr (.rr (.zz .ii))))))))), ?_⟩
     refine h_event 4 (bA 13 63) rfl (by kernel_rfl) (by kernel_rfl) <| s_call h rfl Try.call57 rfl (pack_Reader_Bytes.calls K _ x_18 _ x_19 8 t_8 w0 _ _ (A.un N_23) (Mem.un_le (hA.trans (hS.le_zed [0])) (hS.new_zed [0])) (hS.enter [0] (by decide)) hr_23 et_8) ?_
     rintro v_29 w_29 ⟨_, v_30, N_24, M_16, rfl, hS', hr_24, hr_25⟩
     intro a h
     obtain ⟨N_25, hS'', le_17, ln_8⟩ := hS.call [0] (by decide) rfl (l' := [_]) (ow := [_]) rfl hS'
     replace hS : Sep w0 w_29 [N_25, _, _, _, _, _, _, _, _] Z := hS''
     have hr_26 : Rd Kd.u8 (A.un N_25) v_30 t_8.2.1 := hr_25.mono (Mem.un_le (Mem.un_left le_17) (ln_8.trans (hS.sndA hA)))
     refine ne (hS.sub (.cons le_17 (.zz (.rr (.zz (.rr (.rr (.rr (.zz .nn))))))))) fun hs => ?_
     refine h_event 6 (bA 13 127) rfl (by kernel_rfl) (by kernel_rfl) <| s_call h rfl Try.call57 rfl (pack_Reader_Bytes.calls K _ t_8.2.1 _ t_8.2.2 16 t_9 w0 _ _ (A.un N_25) (Mem.un_le (hA.trans (hS.le_zed [0])) (hS.new_zed [0])) (hS.enter [0] (by decide)) hr_26 et_9) ?_
     rintro v_31 w_30 ⟨_, v_32, N_26, M_17, rfl, hS', hr_27, hr_28⟩
     intro a h
     obtain ⟨N_27, hS'', le_18, ln_9⟩ := hS.call [0] (by decide) rfl (l' := [_]) (ow := [_]) rfl hS'
     replace hS : Sep w0 w_30 [N_27, _, _, _, _, _, _, _, _, _] Z := hS''
     have hr_29 : Rd Kd.u8 (A.un N_27) v_32 t_9.2.1 := hr_28.mono (Mem.un_le (Mem.un_left le_18) (ln_9.trans (hS.sndA hA)))
     refine ne (hS.sub (.cons (le_17.trans le_18) (.zz (.rr (.zz (.rr (.rr (.rr (.zz .nn))))))))) fun hs => ?_
     refine t_take 7 (bA 13 255) rfl rfl rfl rfl h hs (v := .agg ([v_29, v_31] : List Value).toArray) (fun w hS => r_build h ti88 pl88 rfl (.cons hr_24.cells (.cons hr_27.cells .nil)) (cs := [v_29, v_31]) (by kernel_rfl)) fun a h=>h_event 8 (bA 13 511) rfl (by kernel_rfl) (by kernel_rfl) ?_
     obtain ⟨N_28, hS', le_19, lo_4⟩ := hS.freeze 7 rfl
     replace hS : Sep w0 w_30 [N_28, _, _, _, _, _, _, _, Mem.no, _] Z := hS'
     obtain ⟨N_29, hS', le_20, lo_5⟩ := hS.freeze 8 rfl
     replace hS : Sep w0 w_30 [N_29, _, _, _, _, _, _, _, _, Mem.no] Z := hS'
     have hq_4 : Reps k_api_Pair N_29 ([(⟨t_8.1, t_9.1⟩ : api_Pair)] : List api_Pair) _ := ((Reps.one (d := k_api_Pair) (x := (⟨t_8.1, t_9.1⟩ : api_Pair)) (k_api_Pair.mk' ((hr_24.rd lo_4 (Mem.no_le _)).mono le_20) (hr_27.rd lo_5 (Mem.no_le _)))).append (Reps.nil k_api_Pair _))
     refine s_buildSlice h rfl U30 ti88 rfl rfl rfl (.cons rfl .nil) rfl rfl rfl hS hq_4 rfl fun w_31 v_33 M_18 hS' ho_13 a h => ?_
     replace hS : Sep w0 w_31 [_, _, _, _, _, _, _, _, _, _, M_18] Z := hS'
     refine ne (hS.sub (.cons (le_17.trans (le_18.trans (le_19.trans le_20))) (.zz (.rr (.zz (.rr (.rr (.rr (.zz .nn))))))))) fun hs => ?_
     refine h_event 9 (bA 13 1023) rfl (by kernel_rfl) (by kernel_rfl) <| s_append (J := N_29) (I' := N_29) (p := 7) 2932031007402 h rfl rfl rfl U30 ti88 rfl rfl rfl rfl hS rfl ho_12 (ho_13.src (hS.own 10)) (le_17.trans (le_18.trans (le_19.trans le_20))) mr et_10 fun w_32 v_34 M_19 hS' ho_14 a h => ?_
     replace hS : Sep w0 w_32 [_, _, _, _, _, _, _, M_19, _, _, _] Z := hS'
     refine ne (hS.sub (.cons (le_17.trans (le_18.trans (le_19.trans le_20))) (.zz (.rr (.zz (.rr (.rr (.rr (.zz .nn))))))))) fun hs => ?_
     refine t_take 10 (bA 13 2047) rfl rfl rfl rfl h hs (v := .pointer (some ⟨g_2, 0, none⟩)) (fun w hS => r_fieldAddr h U35 rfl ti32 rfl rfl rfl) fun a h=>t_take 11 (bA 13 4095) rfl rfl rfl rfl h hs (v := .pointer (some ⟨g_2, 3, none⟩)) (fun w hS => r_fieldAddr h U32 rfl ti30 rfl rfl rfl) fun a h=>h_event 12 (bA 13 8191) rfl (by kernel_rfl) (by kernel_rfl) ?_
     refine sto 3 h rfl rfl hS rfl ti30 ho_14.cellsA rfl rfl (oc ho_14.one on0) fun w_33 hS' => ?_
     replace hS : Sep w0 w_33 [_, _, _, bx g_2 35 [_, _, _, v_34, _], _, _, _, _, _, _, _] Z := hS'
     refine ne (hS.sub (.cons (le_17.trans (le_18.trans (le_19.trans le_20))) (.zz (.rr (.zz (.rr (.rr (.rr (.zz .nn))))))))) fun hs => ?_
     refine h_done (by kernel_rfl) ?_
     replace h : Fr 66 a [(0, _), (2, _), (3, _), (37, _), (38, _)] := h.keep [0, 2, 3, 37, 38]
     refine x_block_n <| x_then_n (hKJ_8 _ _ ?_)
     refine wp_region_lit <| s_arith (r := w64 (x_17 + 1)) h rfl rfl rfl (.inl ⟨rfl, rfl⟩) fun a h=>mv h rfl fun a h=>wpList_nil <| x_then_n (hKL_2 _ _ ?_)
     exact ⟨w64 (x_17 + 1), t_9.2.1, t_9.2.2, t_10, v_32, v_34, N_29, M_19, H, (h.to rfl), (hS.sel [0, 1, 2, 3, 4, 5, 6, 7] (by decide)), (le_16.trans (le_17.trans (le_18.trans (le_19.trans le_20)))), (hr_29.mono (Mem.un_left (le_19.trans le_20))), (ho_14.mono mr)⟩
    ·refine s_call h rfl Try.call57 rfl (pack_Reader_Bytes.calls K _ x_18 _ x_19 8 t_8 w0 _ _ (A.un N_23) (Mem.un_le (hA.trans (hS.le_zed [0])) (hS.new_zed [0])) (hS.enter [0] (by decide)) hr_23 et_8) ?_
     rintro v_35 w_34 ⟨_, v_36, N_30, M_20, rfl, hS', hr_30, hr_31⟩
     intro a h
     obtain ⟨N_31, hS'', le_21, ln_10⟩ := hS.call [0] (by decide) rfl (l' := [_]) (ow := [_]) rfl hS'
     replace hS : Sep w0 w_34 [N_31, _, _, _, _, _, _, _, _] Z := hS''
     have hr_32 : Rd Kd.u8 (A.un N_31) v_36 t_8.2.1 := hr_31.mono (Mem.un_le (Mem.un_left le_21) (ln_10.trans (hS.sndA hA)))
     refine ne (hS.sub (.cons le_21 (.zz (.rr (.zz (.rr (.rr (.rr (.zz .nn))))))))) fun hs => ?_
     refine h_evs [2, 6] (by kernel_rfl) ⟨⟨_, (bA 13 63), rfl, by kernel_rfl, ?_⟩, ⟨_, (bA 13 123), rfl, by kernel_rfl, ?_⟩, trivial⟩
     ·refine s_load h rfl rfl (hS.load_one (p := 3) rfl U30 rfl rfl) fun a h=>wpList_nil <| x_then_n ⟨(hS.sub (.cons le_21 (.zz (.rr (.zz (.rr (.rr (.rr (.zz .nn))))))))), ?_⟩
      refine h_event 6 (bA 13 127) rfl (by kernel_rfl) (by kernel_rfl) <| s_call h rfl Try.call57 rfl (pack_Reader_Bytes.calls K _ t_8.2.1 _ t_8.2.2 16 t_9 w0 _ _ (A.un N_31) (Mem.un_le (hA.trans (hS.le_zed [0])) (hS.new_zed [0])) (hS.enter [0] (by decide)) hr_32 et_9) ?_
      rintro v_37 w_35 ⟨_, v_38, N_32, M_21, rfl, hS', hr_33, hr_34⟩
      intro a h
      obtain ⟨N_33, hS'', le_22, ln_11⟩ := hS.call [0] (by decide) rfl (l' := [_]) (ow := [_]) rfl hS'
      replace hS : Sep w0 w_35 [N_33, _, _, _, _, _, _, _, _, _] Z := hS''
      have hr_35 : Rd Kd.u8 (A.un N_33) v_38 t_9.2.1 := hr_34.mono (Mem.un_le (Mem.un_left le_22) (ln_11.trans (hS.sndA hA)))
      refine ne (hS.sub (.cons (le_21.trans le_22) (.zz (.rr (.zz (.rr (.rr (.rr (.zz .nn))))))))) fun hs => ?_
      refine t_take 7 (bA 13 255) rfl rfl rfl rfl h hs (v := .agg ([v_35, v_37] : List Value).toArray) (fun w hS => r_build h ti88 pl88 rfl (.cons hr_30.cells (.cons hr_33.cells .nil)) (cs := [v_35, v_37]) (by kernel_rfl)) fun a h=>h_event 8 (bA 13 511) rfl (by kernel_rfl) (by kernel_rfl) ?_
      obtain ⟨N_34, hS', le_23, lo_6⟩ := hS.freeze 7 rfl
      replace hS : Sep w0 w_35 [N_34, _, _, _, _, _, _, _, Mem.no, _] Z := hS'
      obtain ⟨N_35, hS', le_24, lo_7⟩ := hS.freeze 8 rfl
      replace hS : Sep w0 w_35 [N_35, _, _, _, _, _, _, _, _, Mem.no] Z := hS'
      have hq_5 : Reps k_api_Pair N_35 ([(⟨t_8.1, t_9.1⟩ : api_Pair)] : List api_Pair) _ := ((Reps.one (d := k_api_Pair) (x := (⟨t_8.1, t_9.1⟩ : api_Pair)) (k_api_Pair.mk' ((hr_30.rd lo_6 (Mem.no_le _)).mono le_24) (hr_33.rd lo_7 (Mem.no_le _)))).append (Reps.nil k_api_Pair _))
      refine s_buildSlice h rfl U30 ti88 rfl rfl rfl (.cons rfl .nil) rfl rfl rfl hS hq_5 rfl fun w_36 v_39 M_22 hS' ho_15 a h => ?_
      replace hS : Sep w0 w_36 [_, _, _, _, _, _, _, _, _, _, M_22] Z := hS'
      refine ne (hS.sub (.cons (le_21.trans (le_22.trans (le_23.trans le_24))) (.zz (.rr (.zz (.rr (.rr (.rr (.zz .nn))))))))) fun hs => ?_
      refine h_event 9 (bA 13 1023) rfl (by kernel_rfl) (by kernel_rfl) <| s_append (J := N_35) (I' := N_35) (p := 7) 2932031007402 h rfl rfl rfl U30 ti88 rfl rfl rfl rfl hS rfl ho_12 (ho_15.src (hS.own 10)) (le_21.trans (le_22.trans (le_23.trans le_24))) mr et_10 fun w_37 v_40 M_23 hS' ho_16 a h => ?_
      replace hS : Sep w0 w_37 [_, _, _, _, _, _, _, M_23, _, _, _] Z := hS'
      refine ne (hS.sub (.cons (le_21.trans (le_22.trans (le_23.trans le_24))) (.zz (.rr (.zz (.rr (.rr (.rr (.zz .nn))))))))) fun hs => ?_
      refine t_take 10 (bA 13 2047) rfl rfl rfl rfl h hs (v := .pointer (some ⟨g_2, 0, none⟩)) (fun w hS => r_fieldAddr h U35 rfl ti32 rfl rfl rfl) fun a h=>t_take 11 (bA 13 4095) rfl rfl rfl rfl h hs (v := .pointer (some ⟨g_2, 3, none⟩)) (fun w hS => r_fieldAddr h U32 rfl ti30 rfl rfl rfl) fun a h=>h_event 12 (bA 13 8191) rfl (by kernel_rfl) (by kernel_rfl) ?_
      refine sto 3 h rfl rfl hS rfl ti30 ho_16.cellsA rfl rfl (oc ho_16.one on0) fun w_38 hS' => ?_
      replace hS : Sep w0 w_38 [_, _, _, bx g_2 35 [_, _, _, v_40, _], _, _, _, _, _, _, _] Z := hS'
      refine ne (hS.sub (.cons (le_21.trans (le_22.trans (le_23.trans le_24))) (.zz (.rr (.zz (.rr (.rr (.rr (.zz .nn))))))))) fun hs => ?_
      refine h_done (by kernel_rfl) ?_
      replace h : Fr 66 a [(0, _), (2, _), (3, _), (37, _), (38, _)] := h.keep [0, 2, 3, 37, 38]
      refine x_block_n <| x_then_n (hKJ_8 _ _ ?_)
      refine wp_region_lit <| s_arith (r := w64 (x_17 + 1)) h rfl rfl rfl (.inl ⟨rfl, rfl⟩) fun a h=>mv h rfl fun a h=>wpList_nil <| x_then_n (hKL_2 _ _ ?_)
      exact ⟨w64 (x_17 + 1), t_9.2.1, t_9.2.2, t_10, v_38, v_40, N_35, M_23, H, (h.to rfl), (hS.sel [0, 1, 2, 3, 4, 5, 6, 7] (by decide)), (le_16.trans (le_21.trans (le_22.trans (le_23.trans le_24)))), (hr_35.mono (Mem.un_left (le_23.trans le_24))), (ho_16.mono mr)⟩
     ·refine s_call h rfl Try.call57 rfl (pack_Reader_Bytes.calls K _ t_8.2.1 _ t_8.2.2 16 t_9 w0 _ _ (A.un N_31) (Mem.un_le (hA.trans (hS.le_zed [0])) (hS.new_zed [0])) (hS.enter [0] (by decide)) hr_32 et_9) ?_
      rintro v_41 w_39 ⟨_, v_42, N_36, M_24, rfl, hS', hr_36, hr_37⟩
      intro a h
      obtain ⟨N_37, hS'', le_25, ln_12⟩ := hS.call [0] (by decide) rfl (l' := [_]) (ow := [_]) rfl hS'
      replace hS : Sep w0 w_39 [N_37, _, _, _, _, _, _, _, _, _] Z := hS''
      have hr_38 : Rd Kd.u8 (A.un N_37) v_42 t_9.2.1 := hr_37.mono (Mem.un_le (Mem.un_left le_25) (ln_12.trans (hS.sndA hA)))
      refine ne (hS.sub (.cons (le_21.trans le_25) (.zz (.rr (.zz (.rr (.rr (.rr (.zz .nn))))))))) fun hs => ?_
      refine t_take 7 (bA 13 251) rfl rfl rfl rfl h hs (v := .agg ([v_35, v_41] : List Value).toArray) (fun w hS => r_build h ti88 pl88 rfl (.cons hr_30.cells (.cons hr_36.cells .nil)) (cs := [v_35, v_41]) (by kernel_rfl)) fun a h=>h_evs [2, 8] (by kernel_rfl) ⟨⟨_, (bA 13 255), rfl, by kernel_rfl, ?_⟩, ⟨_, (bA 13 507), rfl, by kernel_rfl, ?_⟩, trivial⟩
      ·refine s_load h rfl rfl (hS.load_one (p := 3) rfl U30 rfl rfl) fun a h=>wpList_nil <| x_then_n ⟨(hS.sub (.cons (le_21.trans le_25) (.zz (.rr (.zz (.rr (.rr (.rr (.zz .nn))))))))), ?_⟩
       refine h_event 8 (bA 13 511) rfl (by kernel_rfl) (by kernel_rfl) ?_
       obtain ⟨N_38, hS', le_26, lo_8⟩ := hS.freeze 7 rfl
       replace hS : Sep w0 w_39 [N_38, _, _, _, _, _, _, _, Mem.no, _] Z := hS'
       obtain ⟨N_39, hS', le_27, lo_9⟩ := hS.freeze 8 rfl
       replace hS : Sep w0 w_39 [N_39, _, _, _, _, _, _, _, _, Mem.no] Z := hS'
       have hq_6 : Reps k_api_Pair N_39 ([(⟨t_8.1, t_9.1⟩ : api_Pair)] : List api_Pair) _ := ((Reps.one (d := k_api_Pair) (x := (⟨t_8.1, t_9.1⟩ : api_Pair)) (k_api_Pair.mk' ((hr_30.rd lo_8 (Mem.no_le _)).mono le_27) (hr_36.rd lo_9 (Mem.no_le _)))).append (Reps.nil k_api_Pair _))
       refine s_buildSlice h rfl U30 ti88 rfl rfl rfl (.cons rfl .nil) rfl rfl rfl hS hq_6 rfl fun w_40 v_43 M_25 hS' ho_17 a h => ?_
       replace hS : Sep w0 w_40 [_, _, _, _, _, _, _, _, _, _, M_25] Z := hS'
       refine ne (hS.sub (.cons (le_21.trans (le_25.trans (le_26.trans le_27))) (.zz (.rr (.zz (.rr (.rr (.rr (.zz .nn))))))))) fun hs => ?_
       refine h_event 9 (bA 13 1023) rfl (by kernel_rfl) (by kernel_rfl) <| s_append (J := N_39) (I' := N_39) (p := 7) 2932031007402 h rfl rfl rfl U30 ti88 rfl rfl rfl rfl hS rfl ho_12 (ho_17.src (hS.own 10)) (le_21.trans (le_25.trans (le_26.trans le_27))) mr et_10 fun w_41 v_44 M_26 hS' ho_18 a h => ?_
       replace hS : Sep w0 w_41 [_, _, _, _, _, _, _, M_26, _, _, _] Z := hS'
       refine ne (hS.sub (.cons (le_21.trans (le_25.trans (le_26.trans le_27))) (.zz (.rr (.zz (.rr (.rr (.rr (.zz .nn))))))))) fun hs => ?_
       refine t_take 10 (bA 13 2047) rfl rfl rfl rfl h hs (v := .pointer (some ⟨g_2, 0, none⟩)) (fun w hS => r_fieldAddr h U35 rfl ti32 rfl rfl rfl) fun a h=>t_take 11 (bA 13 4095) rfl rfl rfl rfl h hs (v := .pointer (some ⟨g_2, 3, none⟩)) (fun w hS => r_fieldAddr h U32 rfl ti30 rfl rfl rfl) fun a h=>h_event 12 (bA 13 8191) rfl (by kernel_rfl) (by kernel_rfl) ?_
       refine sto 3 h rfl rfl hS rfl ti30 ho_18.cellsA rfl rfl (oc ho_18.one on0) fun w_42 hS' => ?_
       replace hS : Sep w0 w_42 [_, _, _, bx g_2 35 [_, _, _, v_44, _], _, _, _, _, _, _, _] Z := hS'
       refine ne (hS.sub (.cons (le_21.trans (le_25.trans (le_26.trans le_27))) (.zz (.rr (.zz (.rr (.rr (.rr (.zz .nn))))))))) fun hs => ?_
       refine h_done (by kernel_rfl) ?_
       replace h : Fr 66 a [(0, _), (2, _), (3, _), (37, _), (38, _)] := h.keep [0, 2, 3, 37, 38]
       refine x_block_n <| x_then_n (hKJ_8 _ _ ?_)
       refine wp_region_lit <| s_arith (r := w64 (x_17 + 1)) h rfl rfl rfl (.inl ⟨rfl, rfl⟩) fun a h=>mv h rfl fun a h=>wpList_nil <| x_then_n (hKL_2 _ _ ?_)
       exact ⟨w64 (x_17 + 1), t_9.2.1, t_9.2.2, t_10, v_42, v_44, N_39, M_26, H, (h.to rfl), (hS.sel [0, 1, 2, 3, 4, 5, 6, 7] (by decide)), (le_16.trans (le_21.trans (le_25.trans (le_26.trans le_27)))), (hr_38.mono (Mem.un_left (le_26.trans le_27))), (ho_18.mono mr)⟩
      ·obtain ⟨N_40, hS', le_28, lo_10⟩ := hS.freeze 7 rfl
       replace hS : Sep w0 w_39 [N_40, _, _, _, _, _, _, _, Mem.no, _] Z := hS'
       obtain ⟨N_41, hS', le_29, lo_11⟩ := hS.freeze 8 rfl
       replace hS : Sep w0 w_39 [N_41, _, _, _, _, _, _, _, _, Mem.no] Z := hS'
       have hq_7 : Reps k_api_Pair N_41 ([(⟨t_8.1, t_9.1⟩ : api_Pair)] : List api_Pair) _ := ((Reps.one (d := k_api_Pair) (x := (⟨t_8.1, t_9.1⟩ : api_Pair)) (k_api_Pair.mk' ((hr_30.rd lo_10 (Mem.no_le _)).mono le_29) (hr_36.rd lo_11 (Mem.no_le _)))).append (Reps.nil k_api_Pair _))
       refine s_buildSlice h rfl U30 ti88 rfl rfl rfl (.cons rfl .nil) rfl rfl rfl hS hq_7 rfl fun w_43 v_45 M_27 hS' ho_19 a h => ?_
       replace hS : Sep w0 w_43 [_, _, _, _, _, _, _, _, _, _, M_27] Z := hS'
       refine ne (hS.sub (.cons (le_21.trans (le_25.trans (le_28.trans le_29))) (.zz (.rr (.zz (.rr (.rr (.rr (.zz .nn))))))))) fun hs => ?_
       refine h_event 2 (bA 13 511) rfl (by kernel_rfl) (by kernel_rfl) <| s_load h rfl rfl (hS.load_one (p := 3) rfl U30 rfl rfl) fun a h=>wpList_nil <| x_then_n ⟨(hS.sub (.cons (le_21.trans (le_25.trans (le_28.trans le_29))) (.zz (.rr (.zz (.rr (.rr (.rr (.zz .nn))))))))), ?_⟩
       refine h_event 9 (bA 13 1023) rfl (by kernel_rfl) (by kernel_rfl) <| s_append (J := N_41) (I' := N_41) (p := 7) 2932031007402 h rfl rfl rfl U30 ti88 rfl rfl rfl rfl hS rfl ho_12 (ho_19.src (hS.own 10)) (le_21.trans (le_25.trans (le_28.trans le_29))) mr et_10 fun w_44 v_46 M_28 hS' ho_20 a h => ?_
       replace hS : Sep w0 w_44 [_, _, _, _, _, _, _, M_28, _, _, _] Z := hS'
       refine ne (hS.sub (.cons (le_21.trans (le_25.trans (le_28.trans le_29))) (.zz (.rr (.zz (.rr (.rr (.rr (.zz .nn))))))))) fun hs => ?_
       refine t_take 10 (bA 13 2047) rfl rfl rfl rfl h hs (v := .pointer (some ⟨g_2, 0, none⟩)) (fun w hS => r_fieldAddr h U35 rfl ti32 rfl rfl rfl) fun a h=>t_take 11 (bA 13 4095) rfl rfl rfl rfl h hs (v := .pointer (some ⟨g_2, 3, none⟩)) (fun w hS => r_fieldAddr h U32 rfl ti30 rfl rfl rfl) fun a h=>h_event 12 (bA 13 8191) rfl (by kernel_rfl) (by kernel_rfl) ?_
       refine sto 3 h rfl rfl hS rfl ti30 ho_20.cellsA rfl rfl (oc ho_20.one on0) fun w_45 hS' => ?_
       replace hS : Sep w0 w_45 [_, _, _, bx g_2 35 [_, _, _, v_46, _], _, _, _, _, _, _, _] Z := hS'
       refine ne (hS.sub (.cons (le_21.trans (le_25.trans (le_28.trans le_29))) (.zz (.rr (.zz (.rr (.rr (.rr (.zz .nn))))))))) fun hs => ?_
       refine h_done (by kernel_rfl) ?_
       replace h : Fr 66 a [(0, _), (2, _), (3, _), (37, _), (38, _)] := h.keep [0, 2, 3, 37, 38]
       refine x_block_n <| x_then_n (hKJ_8 _ _ ?_)
       refine wp_region_lit <| s_arith (r := w64 (x_17 + 1)) h rfl rfl rfl (.inl ⟨rfl, rfl⟩) fun a h=>mv h rfl fun a h=>wpList_nil <| x_then_n (hKL_2 _ _ ?_)
       exact ⟨w64 (x_17 + 1), t_9.2.1, t_9.2.2, t_10, v_42, v_46, N_41, M_28, H, (h.to rfl), (hS.sel [0, 1, 2, 3, 4, 5, 6, 7] (by decide)), (le_16.trans (le_21.trans (le_25.trans (le_28.trans le_29)))), (hr_38.mono (Mem.un_left (le_28.trans le_29))), (ho_20.mono mr)⟩
   ·refine c_cond_f h rfl (df hc_2) <| wp_exit (x_then_x (x_then_x (x_block_t ?_)))
    exact x_then_n (hJ_j_3 x_18 x_19 x_20 H _ _ ⟨v_27, v_28, N_23, M_15, (h.to rfl), (hS.sel [0, 1, 2, 3, 4, 5, 6, 7] (by decide)), le_16, hr_23, (ho_12.mono mr)⟩)
  clear hKJ_2
  have hS' := hS.room
  replace hS : Sep w0 w_7 [_, _, _, _, _, _, Mem.no] Z := hS'
  refine c_block <| c_loop (fun k_3 a w_46 => ∃ (x_21 : Int) (x_22 : List UInt8) (x_23 : Bool) (x_24 : List Int) (v_47 : Value) (v_48 : Value) (N_42 : Mem) (M_29 : Mem), mach_read.L3 K t_3 (fun v => mach_read.J2 K t_1 x_3 v.1 v.2.1 v.2.2) k_3 (x_21, x_22, x_23, x_24) = some r ∧ Fr 66 a [(0, .pointer (some ⟨g0, 0, none⟩)), (2, .pointer (some ⟨g_1, 0, none⟩)), (3, .pointer (some ⟨g_2, 0, none⟩)), (23, iV t_3.1), (24, iV x_21)] ∧ Sep w0 w_46 [N_42, bx g0 112 [v_47, .bool x_23], bx g_1 35 [nS, nS, nS, nS, nS], bx g_2 35 [v_1, v_5, v_48, nS, nS], M_1, M_2, M_29] Z ∧ N_7.le N_42 ∧ Rd Kd.u8 (A.un N_42) v_47 x_22 ∧ Own (Kd.int .i64) 3 M_29 Mem.no v_48 x_24) K ⟨0, t_3.2.1, t_3.2.2, ([] : List Int), v_6, nS, N_7, Mem.no, H, (h.to rfl), (hS.sel [0, 1, 2, 3, 4, 5, 6] (by decide)), mr, hr_8, (Own.nil (Kd.int .i64) 3 Mem.no)⟩ (fun a w h => by obtain ⟨_, _, _, _, _, _, _, _, H, _⟩ := h; cases (show (none : Option (api_Machine × (List UInt8) × Bool)) = some r from H)) ?_
  clear h hS a H
  rintro k_3 a w_46 KL_3 hKL_3 ⟨x_21, x_22, x_23, x_24, v_47, v_48, N_42, M_29, H, h, hS, le_30, hr_39, ho_21⟩
  replace H : mach_read.B3 K t_3 (fun v => mach_read.J2 K t_1 x_3 v.1 v.2.1 v.2.2) (mach_read.L3 K t_3 (fun v => mach_read.J2 K t_1 x_3 v.1 v.2.1 v.2.2) k_3) x_21 x_22 x_23 x_24 = some r := H
  unfold mach_read.B3 at H
  refine qr <| s_cmp (b := decide (x_21 < t_3.1)) h rfl rfl rfl (.inr (.inr (.inl ⟨rfl, rfl⟩))) fun a h=>nx <| c_seq fun KJ_9 hKJ_9 => ?_
  obtain ⟨hc_3, H⟩ | ⟨hc_3, H⟩ := ii H
  ·refine c_cond_t h rfl (dt hc_3) <| wp_skip <| x_then_n (hKJ_9 _ _ ?_)
   refine c_seq fun KJ_10 hKJ_10 => c_block <| h_begin (S := fun w => Sep w0 w [N_42, Mem.no, bx g_1 35 [nS, nS, nS, nS, nS], Mem.no, M_1, M_2, Mem.no] Z) 10 (by kernel_rfl) rfl (bA 10 0) (by kernel_rfl) hS fun w_47 hS => ?_
   refine t_take 0 (bA 10 1) rfl rfl rfl rfl h (hS.sub (.cons mr (.zz (.rr (.zz (.rr (.rr (.zz .ii)))))))) (v := .pointer (some ⟨g_2, 0, none⟩)) (fun w hS => r_fieldAddr h U35 rfl ti32 rfl rfl rfl) fun a h=>t_take 1 (bA 10 3) rfl rfl rfl rfl h (hS.sub (.cons mr (.zz (.rr (.zz (.rr (.rr (.zz .ii)))))))) (v := .pointer (some ⟨g_2, 2, none⟩)) (fun w hS => r_fieldAddr h U32 rfl ti29 rfl rfl rfl) fun a h=>t_take 3 (bA 10 11) rfl rfl rfl rfl h (hS.sub (.cons mr (.zz (.rr (.zz (.rr (.rr (.zz .ii)))))))) (v := .pointer (some ⟨g0, 0, none⟩)) (fun w hS => r_move h rfl) fun a h=>?_
   obtain ⟨t_11, et_11, H⟩ := bs H
   obtain ⟨t_12, et_12, H⟩ := bs H
   refine h_evs [2, 4] (by kernel_rfl) ⟨⟨_, (bA 10 15), rfl, by kernel_rfl, ?_⟩, ⟨_, (bA 10 27), rfl, by kernel_rfl, ?_⟩, trivial⟩
   ·refine s_load h rfl rfl (hS.load_one (p := 3) rfl U29 rfl rfl) fun a h=>wpList_nil <| x_then_n ⟨(hS.sub (.cons mr (.zz (.rr (.zz (.rr (.rr (.zz .ii)))))))), ?_⟩
    refine h_event 4 (bA 10 31) rfl (by kernel_rfl) (by kernel_rfl) <| s_call h rfl Try.call55 rfl (pack_Reader_Num.calls K _ x_22 _ x_23 999 t_11 w0 _ _ (A.un N_42) (Mem.un_le (hA.trans (hS.le_zed [0])) (hS.new_zed [0])) (hS.enter [0] (by decide)) hr_39 et_11) ?_
    rintro _ w_48 ⟨v_49, N_43, rfl, hS', hr_40⟩
    intro a h
    obtain ⟨N_44, hS'', le_31, ln_13⟩ := hS.call [0] (by decide) rfl (l' := [_]) (ow := []) rfl hS'
    replace hS : Sep w0 w_48 [N_44, _, _, _, _, _, _] Z := hS''
    have hr_41 : Rd Kd.u8 (A.un N_44) v_49 t_11.2.1 := hr_40.mono (Mem.un_le (Mem.un_left le_31) (ln_13.trans (hS.sndA hA)))
    refine ne (hS.sub (.cons le_31 (.zz (.rr (.zz (.rr (.rr (.zz .ii)))))))) fun hs => ?_
    refine h_event 5 (bA 10 63) rfl (by kernel_rfl) (by kernel_rfl) ?_
    have hq_8 : Reps (Kd.int .i64) Mem.no ([t_11.1] : List Int) _ := ((Reps.one (d := (Kd.int .i64)) (x := t_11.1) (show (Kd.int .i64).K _ _ [iV t_11.1] from rfl)).append (Reps.nil (Kd.int .i64) _))
    refine s_buildSlice h rfl U29 ti3 rfl rfl rfl (.cons rfl .nil) rfl rfl rfl hS hq_8 rfl fun w_49 v_50 M_30 hS' ho_22 a h => ?_
    replace hS : Sep w0 w_49 [_, _, _, _, _, _, _, M_30] Z := hS'
    refine ne (hS.sub (.cons le_31 (.zz (.rr (.zz (.rr (.rr (.zz .nn)))))))) fun hs => ?_
    refine h_event 6 (bA 10 127) rfl (by kernel_rfl) (by kernel_rfl) <| s_append (J := Mem.no) (I' := Mem.no) (p := 6) 17592186044416 h rfl rfl rfl U29 ti3 rfl rfl rfl rfl hS rfl ho_21 (Src.flat (flat_int .i64) (ho_22.src (hS.own 7))) mr mr et_12 fun w_50 v_51 M_31 hS' ho_23 a h => ?_
    replace hS : Sep w0 w_50 [_, _, _, _, _, _, M_31, _] Z := hS'
    refine ne (hS.sub (.cons le_31 (.zz (.rr (.zz (.rr (.rr (.zz .nn)))))))) fun hs => ?_
    refine t_take 7 (bA 10 255) rfl rfl rfl rfl h hs (v := .pointer (some ⟨g_2, 0, none⟩)) (fun w hS => r_fieldAddr h U35 rfl ti32 rfl rfl rfl) fun a h=>t_take 8 (bA 10 511) rfl rfl rfl rfl h hs (v := .pointer (some ⟨g_2, 2, none⟩)) (fun w hS => r_fieldAddr h U32 rfl ti29 rfl rfl rfl) fun a h=>h_event 9 (bA 10 1023) rfl (by kernel_rfl) (by kernel_rfl) ?_
    refine sto 3 h rfl rfl hS rfl ti29 ho_23.cellsA rfl rfl (oc ho_23.one on0) fun w_51 hS' => ?_
    replace hS : Sep w0 w_51 [_, _, _, bx g_2 35 [_, _, v_51, _, _], _, _, _, _] Z := hS'
    refine ne (hS.sub (.cons le_31 (.zz (.rr (.zz (.rr (.rr (.zz .nn)))))))) fun hs => ?_
    refine h_done (by kernel_rfl) <| x_block_n <| x_then_n (hKJ_10 _ _ ?_)
    refine wp_region_lit <| s_arith (r := w64 (x_21 + 1)) h rfl rfl rfl (.inl ⟨rfl, rfl⟩) fun a h=>mv h rfl fun a h=>wpList_nil ?_
    replace h : Fr 66 a [(0, _), (2, _), (3, _), (23, _), (24, iV (w64 (x_21 + 1)))] := h.keep [0, 2, 3, 23, 24]
    refine x_then_n (hKL_3 _ _ ?_)
    exact ⟨w64 (x_21 + 1), t_11.2.1, t_11.2.2, t_12, v_49, v_51, N_44, M_31, H, (h.to rfl), (hS.sel [0, 1, 2, 3, 4, 5, 6] (by decide)), (le_30.trans le_31), hr_41, ho_23⟩
   ·refine s_call h rfl Try.call55 rfl (pack_Reader_Num.calls K _ x_22 _ x_23 999 t_11 w0 _ _ (A.un N_42) (Mem.un_le (hA.trans (hS.le_zed [0])) (hS.new_zed [0])) (hS.enter [0] (by decide)) hr_39 et_11) ?_
    rintro _ w_52 ⟨v_52, N_45, rfl, hS', hr_42⟩
    intro a h
    obtain ⟨N_46, hS'', le_32, ln_14⟩ := hS.call [0] (by decide) rfl (l' := [_]) (ow := []) rfl hS'
    replace hS : Sep w0 w_52 [N_46, _, _, _, _, _, _] Z := hS''
    have hr_43 : Rd Kd.u8 (A.un N_46) v_52 t_11.2.1 := hr_42.mono (Mem.un_le (Mem.un_left le_32) (ln_14.trans (hS.sndA hA)))
    refine ne (hS.sub (.cons le_32 (.zz (.rr (.zz (.rr (.rr (.zz .ii)))))))) fun hs => ?_
    refine h_evs [2, 5] (by kernel_rfl) ⟨⟨_, (bA 10 31), rfl, by kernel_rfl, ?_⟩, ⟨_, (bA 10 59), rfl, by kernel_rfl, ?_⟩, trivial⟩
    ·refine s_load h rfl rfl (hS.load_one (p := 3) rfl U29 rfl rfl) fun a h=>wpList_nil <| x_then_n ⟨(hS.sub (.cons le_32 (.zz (.rr (.zz (.rr (.rr (.zz .ii)))))))), ?_⟩
     refine h_event 5 (bA 10 63) rfl (by kernel_rfl) (by kernel_rfl) ?_
     have hq_9 : Reps (Kd.int .i64) Mem.no ([t_11.1] : List Int) _ := ((Reps.one (d := (Kd.int .i64)) (x := t_11.1) (show (Kd.int .i64).K _ _ [iV t_11.1] from rfl)).append (Reps.nil (Kd.int .i64) _))
     refine s_buildSlice h rfl U29 ti3 rfl rfl rfl (.cons rfl .nil) rfl rfl rfl hS hq_9 rfl fun w_53 v_53 M_32 hS' ho_24 a h => ?_
     replace hS : Sep w0 w_53 [_, _, _, _, _, _, _, M_32] Z := hS'
     refine ne (hS.sub (.cons le_32 (.zz (.rr (.zz (.rr (.rr (.zz .nn)))))))) fun hs => ?_
     refine h_event 6 (bA 10 127) rfl (by kernel_rfl) (by kernel_rfl) <| s_append (J := Mem.no) (I' := Mem.no) (p := 6) 17592186044416 h rfl rfl rfl U29 ti3 rfl rfl rfl rfl hS rfl ho_21 (Src.flat (flat_int .i64) (ho_24.src (hS.own 7))) mr mr et_12 fun w_54 v_54 M_33 hS' ho_25 a h => ?_
     replace hS : Sep w0 w_54 [_, _, _, _, _, _, M_33, _] Z := hS'
     refine ne (hS.sub (.cons le_32 (.zz (.rr (.zz (.rr (.rr (.zz .nn)))))))) fun hs => ?_
     refine t_take 7 (bA 10 255) rfl rfl rfl rfl h hs (v := .pointer (some ⟨g_2, 0, none⟩)) (fun w hS => r_fieldAddr h U35 rfl ti32 rfl rfl rfl) fun a h=>t_take 8 (bA 10 511) rfl rfl rfl rfl h hs (v := .pointer (some ⟨g_2, 2, none⟩)) (fun w hS => r_fieldAddr h U32 rfl ti29 rfl rfl rfl) fun a h=>h_event 9 (bA 10 1023) rfl (by kernel_rfl) (by kernel_rfl) ?_
     refine sto 3 h rfl rfl hS rfl ti29 ho_25.cellsA rfl rfl (oc ho_25.one on0) fun w_55 hS' => ?_
     replace hS : Sep w0 w_55 [_, _, _, bx g_2 35 [_, _, v_54, _, _], _, _, _, _] Z := hS'
     refine ne (hS.sub (.cons le_32 (.zz (.rr (.zz (.rr (.rr (.zz .nn)))))))) fun hs => ?_
     refine h_done (by kernel_rfl) <| x_block_n <| x_then_n (hKJ_10 _ _ ?_)
     refine wp_region_lit <| s_arith (r := w64 (x_21 + 1)) h rfl rfl rfl (.inl ⟨rfl, rfl⟩) fun a h=>mv h rfl fun a h=>wpList_nil ?_
     replace h : Fr 66 a [(0, _), (2, _), (3, _), (23, _), (24, iV (w64 (x_21 + 1)))] := h.keep [0, 2, 3, 23, 24]
     refine x_then_n (hKL_3 _ _ ?_)
     exact ⟨w64 (x_21 + 1), t_11.2.1, t_11.2.2, t_12, v_52, v_54, N_46, M_33, H, (h.to rfl), (hS.sel [0, 1, 2, 3, 4, 5, 6] (by decide)), (le_30.trans le_32), hr_43, ho_25⟩
    ·have hq_10 : Reps (Kd.int .i64) Mem.no ([t_11.1] : List Int) _ := ((Reps.one (d := (Kd.int .i64)) (x := t_11.1) (show (Kd.int .i64).K _ _ [iV t_11.1] from rfl)).append (Reps.nil (Kd.int .i64) _))
     refine s_buildSlice h rfl U29 ti3 rfl rfl rfl (.cons rfl .nil) rfl rfl rfl hS hq_10 rfl fun w_56 v_55 M_34 hS' ho_26 a h => ?_
     replace hS : Sep w0 w_56 [_, _, _, _, _, _, _, M_34] Z := hS'
     refine ne (hS.sub (.cons le_32 (.zz (.rr (.zz (.rr (.rr (.zz .nn)))))))) fun hs => ?_
     refine h_event 2 (bA 10 63) rfl (by kernel_rfl) (by kernel_rfl) <| s_load h rfl rfl (hS.load_one (p := 3) rfl U29 rfl rfl) fun a h=>wpList_nil <| x_then_n ⟨(hS.sub (.cons le_32 (.zz (.rr (.zz (.rr (.rr (.zz .nn)))))))), ?_⟩
     refine h_event 6 (bA 10 127) rfl (by kernel_rfl) (by kernel_rfl) <| s_append (J := Mem.no) (I' := Mem.no) (p := 6) 17592186044416 h rfl rfl rfl U29 ti3 rfl rfl rfl rfl hS rfl ho_21 (Src.flat (flat_int .i64) (ho_26.src (hS.own 7))) mr mr et_12 fun w_57 v_56 M_35 hS' ho_27 a h => ?_
     replace hS : Sep w0 w_57 [_, _, _, _, _, _, M_35, _] Z := hS'
     refine ne (hS.sub (.cons le_32 (.zz (.rr (.zz (.rr (.rr (.zz .nn)))))))) fun hs => ?_
     refine t_take 7 (bA 10 255) rfl rfl rfl rfl h hs (v := .pointer (some ⟨g_2, 0, none⟩)) (fun w hS => r_fieldAddr h U35 rfl ti32 rfl rfl rfl) fun a h=>t_take 8 (bA 10 511) rfl rfl rfl rfl h hs (v := .pointer (some ⟨g_2, 2, none⟩)) (fun w hS => r_fieldAddr h U32 rfl ti29 rfl rfl rfl) fun a h=>h_event 9 (bA 10 1023) rfl (by kernel_rfl) (by kernel_rfl) ?_
     refine sto 3 h rfl rfl hS rfl ti29 ho_27.cellsA rfl rfl (oc ho_27.one on0) fun w_58 hS' => ?_
     replace hS : Sep w0 w_58 [_, _, _, bx g_2 35 [_, _, v_56, _, _], _, _, _, _] Z := hS'
     refine ne (hS.sub (.cons le_32 (.zz (.rr (.zz (.rr (.rr (.zz .nn)))))))) fun hs => ?_
     refine h_done (by kernel_rfl) <| x_block_n <| x_then_n (hKJ_10 _ _ ?_)
     refine wp_region_lit <| s_arith (r := w64 (x_21 + 1)) h rfl rfl rfl (.inl ⟨rfl, rfl⟩) fun a h=>mv h rfl fun a h=>wpList_nil ?_
     replace h : Fr 66 a [(0, _), (2, _), (3, _), (23, _), (24, iV (w64 (x_21 + 1)))] := h.keep [0, 2, 3, 23, 24]
     refine x_then_n (hKL_3 _ _ ?_)
     exact ⟨w64 (x_21 + 1), t_11.2.1, t_11.2.2, t_12, v_52, v_56, N_46, M_35, H, (h.to rfl), (hS.sel [0, 1, 2, 3, 4, 5, 6] (by decide)), (le_30.trans le_32), hr_43, ho_27⟩
  ·refine c_cond_f h rfl (df hc_3) <| wp_exit (x_then_x (x_then_x (x_block_t ?_)))
   exact x_then_n (hJ_j_2 x_22 x_23 x_24 H _ _ ⟨v_47, v_48, N_42, M_29, (h.to rfl), (hS.sel [0, 1, 2, 3, 4, 5, 6] (by decide)), le_30, hr_39, ho_21⟩)
 clear hKJ_1
 have hS' := hS.room
 replace hS : Sep w0 w_5 [_, _, _, _, _, Mem.no] Z := hS'
 refine c_block <| c_loop (fun k_4 a w_59 => ∃ (x_25 : Int) (x_26 : List UInt8) (x_27 : Bool) (x_28 : List (List UInt8)) (v_57 : Value) (v_58 : Value) (N_47 : Mem) (M_36 : Mem), mach_read.L4 K t_2 (fun v => mach_read.J1 K t_1 v.1 v.2.1 v.2.2) k_4 (x_25, x_26, x_27, x_28) = some r ∧ Fr 66 a [(0, .pointer (some ⟨g0, 0, none⟩)), (2, .pointer (some ⟨g_1, 0, none⟩)), (3, .pointer (some ⟨g_2, 0, none⟩)), (9, iV t_2.1), (10, iV x_25)] ∧ Sep w0 w_59 [N_47, bx g0 112 [v_57, .bool x_27], bx g_1 35 [nS, nS, nS, nS, nS], bx g_2 35 [v_1, v_58, nS, nS, nS], M_1, M_36] Z ∧ N_4.le N_47 ∧ Rd Kd.u8 (A.un N_47) v_57 x_26 ∧ Own (Kd.slice Kd.u8) 22 M_36 N_47 v_58 x_28) K ⟨0, t_2.2.1, t_2.2.2, ([] : List (List UInt8)), v_3, nS, N_4, Mem.no, H, (h.to rfl), (hS.sel [0, 1, 2, 3, 4, 5] (by decide)), mr, hr_5, ((Own.nil (Kd.slice Kd.u8) 22 N_4).mono mr)⟩ (fun a w h => by obtain ⟨_, _, _, _, _, _, _, _, H, _⟩ := h; cases (show (none : Option (api_Machine × (List UInt8) × Bool)) = some r from H)) ?_
 clear h hS a H
 rintro k_4 a w_59 KL_4 hKL_4 ⟨x_25, x_26, x_27, x_28, v_57, v_58, N_47, M_36, H, h, hS, le_33, hr_44, ho_28⟩
 replace H : mach_read.B4 K t_2 (fun v => mach_read.J1 K t_1 v.1 v.2.1 v.2.2) (mach_read.L4 K t_2 (fun v => mach_read.J1 K t_1 v.1 v.2.1 v.2.2) k_4) x_25 x_26 x_27 x_28 = some r := H
 unfold mach_read.B4 at H
 refine qr <| s_cmp (b := decide (x_25 < t_2.1)) h rfl rfl rfl (.inr (.inr (.inl ⟨rfl, rfl⟩))) fun a h=>nx <| c_seq fun KJ_11 hKJ_11 => ?_
 obtain ⟨hc_4, H⟩ | ⟨hc_4, H⟩ := ii H
 ·refine c_cond_t h rfl (dt hc_4) <| wp_skip <| x_then_n (hKJ_11 _ _ ?_)
  refine c_seq fun KJ_12 hKJ_12 => c_block <| h_begin (S := fun w => Sep w0 w [N_47, Mem.no, bx g_1 35 [nS, nS, nS, nS, nS], Mem.no, M_1, Mem.no] Z) 10 (by kernel_rfl) rfl (bA 10 0) (by kernel_rfl) hS fun w_60 hS => ?_
  refine t_take 0 (bA 10 1) rfl rfl rfl rfl h (hS.sub (.cons mr (.zz (.rr (.zz (.rr (.zz .ii))))))) (v := .pointer (some ⟨g_2, 0, none⟩)) (fun w hS => r_fieldAddr h U35 rfl ti32 rfl rfl rfl) fun a h=>t_take 1 (bA 10 3) rfl rfl rfl rfl h (hS.sub (.cons mr (.zz (.rr (.zz (.rr (.zz .ii))))))) (v := .pointer (some ⟨g_2, 1, none⟩)) (fun w hS => r_fieldAddr h U32 rfl ti28 rfl rfl rfl) fun a h=>t_take 3 (bA 10 11) rfl rfl rfl rfl h (hS.sub (.cons mr (.zz (.rr (.zz (.rr (.zz .ii))))))) (v := .pointer (some ⟨g0, 0, none⟩)) (fun w hS => r_move h rfl) fun a h=>?_
  obtain ⟨t_13, et_13, H⟩ := bs H
  obtain ⟨t_14, et_14, H⟩ := bs H
  refine h_evs [2, 4] (by kernel_rfl) ⟨⟨_, (bA 10 15), rfl, by kernel_rfl, ?_⟩, ⟨_, (bA 10 27), rfl, by kernel_rfl, ?_⟩, trivial⟩
  ·refine s_load h rfl rfl (hS.load_one (p := 3) rfl U28 rfl rfl) fun a h=>wpList_nil <| x_then_n ⟨(hS.sub (.cons mr (.zz (.rr (.zz (.rr (.zz .ii))))))), ?_⟩
   refine h_event 4 (bA 10 31) rfl (by kernel_rfl) (by kernel_rfl) <| s_call h rfl Try.call57 rfl (pack_Reader_Bytes.calls K _ x_26 _ x_27 16 t_13 w0 _ _ (A.un N_47) (Mem.un_le (hA.trans (hS.le_zed [0])) (hS.new_zed [0])) (hS.enter [0] (by decide)) hr_44 et_13) ?_
   rintro v_59 w_61 ⟨_, v_60, N_48, M_37, rfl, hS', hr_45, hr_46⟩
   intro a h
   obtain ⟨N_49, hS'', le_34, ln_15⟩ := hS.call [0] (by decide) rfl (l' := [_]) (ow := [_]) rfl hS'
   replace hS : Sep w0 w_61 [N_49, _, _, _, _, _, _] Z := hS''
   have hr_47 : Rd Kd.u8 (A.un N_49) v_60 t_13.2.1 := hr_46.mono (Mem.un_le (Mem.un_left le_34) (ln_15.trans (hS.sndA hA)))
   refine ne (hS.sub (.cons le_34 (.zz (.rr (.zz (.rr (.zz .nn))))))) fun hs => ?_
   refine h_event 5 (bA 10 63) rfl (by kernel_rfl) (by kernel_rfl) ?_
   obtain ⟨N_50, hS', le_35, lo_12⟩ := hS.freeze 5 rfl
   replace hS : Sep w0 w_61 [N_50, _, _, _, _, _, Mem.no] Z := hS'
   have hq_11 : Reps (Kd.slice Kd.u8) N_50 ([t_13.1] : List (List UInt8)) _ := ((Reps.one (d := (Kd.slice Kd.u8)) (x := t_13.1) ⟨_, rfl, (hr_45.rd lo_12 (Mem.no_le _))⟩).append (Reps.nil (Kd.slice Kd.u8) _))
   refine s_buildSlice h rfl U28 ti22 rfl rfl rfl (.cons (hr_45.rd lo_12 (Mem.no_le _)).cells .nil) rfl rfl rfl hS hq_11 rfl fun w_62 v_61 M_38 hS' ho_29 a h => ?_
   replace hS : Sep w0 w_62 [_, _, _, _, _, _, _, M_38] Z := hS'
   refine ne (hS.sub (.cons (le_34.trans le_35) (.zz (.rr (.zz (.rr (.zz .nn))))))) fun hs => ?_
   refine h_event 6 (bA 10 127) rfl (by kernel_rfl) (by kernel_rfl) <| s_append (J := N_50) (I' := N_50) (p := 5) 5864062014805 h rfl rfl rfl U28 ti22 rfl rfl rfl rfl hS rfl ho_28 (ho_29.src (hS.own 7)) (le_34.trans le_35) mr et_14 fun w_63 v_62 M_39 hS' ho_30 a h => ?_
   replace hS : Sep w0 w_63 [_, _, _, _, _, M_39, _, _] Z := hS'
   refine ne (hS.sub (.cons (le_34.trans le_35) (.zz (.rr (.zz (.rr (.zz .nn))))))) fun hs => ?_
   refine t_take 7 (bA 10 255) rfl rfl rfl rfl h hs (v := .pointer (some ⟨g_2, 0, none⟩)) (fun w hS => r_fieldAddr h U35 rfl ti32 rfl rfl rfl) fun a h=>t_take 8 (bA 10 511) rfl rfl rfl rfl h hs (v := .pointer (some ⟨g_2, 1, none⟩)) (fun w hS => r_fieldAddr h U32 rfl ti28 rfl rfl rfl) fun a h=>h_event 9 (bA 10 1023) rfl (by kernel_rfl) (by kernel_rfl) ?_
   refine sto 3 h rfl rfl hS rfl ti28 ho_30.cellsA rfl rfl (oc ho_30.one on0) fun w_64 hS' => ?_
   replace hS : Sep w0 w_64 [_, _, _, bx g_2 35 [_, v_62, _, _, _], _, _, _, _] Z := hS'
   refine ne (hS.sub (.cons (le_34.trans le_35) (.zz (.rr (.zz (.rr (.zz .nn))))))) fun hs => ?_
   refine h_done (by kernel_rfl) <| x_block_n <| x_then_n (hKJ_12 _ _ ?_)
   refine wp_region_lit <| s_arith (r := w64 (x_25 + 1)) h rfl rfl rfl (.inl ⟨rfl, rfl⟩) fun a h=>mv h rfl fun a h=>wpList_nil <| x_then_n (hKL_4 _ _ ?_)
   exact ⟨w64 (x_25 + 1), t_13.2.1, t_13.2.2, t_14, v_60, v_62, N_50, M_39, H, (h.to rfl), (hS.sel [0, 1, 2, 3, 4, 5] (by decide)), (le_33.trans (le_34.trans le_35)), (hr_47.mono (Mem.un_left le_35)), (ho_30.mono mr)⟩
  ·refine s_call h rfl Try.call57 rfl (pack_Reader_Bytes.calls K _ x_26 _ x_27 16 t_13 w0 _ _ (A.un N_47) (Mem.un_le (hA.trans (hS.le_zed [0])) (hS.new_zed [0])) (hS.enter [0] (by decide)) hr_44 et_13) ?_
   rintro v_63 w_65 ⟨_, v_64, N_51, M_40, rfl, hS', hr_48, hr_49⟩
   intro a h
   obtain ⟨N_52, hS'', le_36, ln_16⟩ := hS.call [0] (by decide) rfl (l' := [_]) (ow := [_]) rfl hS'
   replace hS : Sep w0 w_65 [N_52, _, _, _, _, _, _] Z := hS''
   have hr_50 : Rd Kd.u8 (A.un N_52) v_64 t_13.2.1 := hr_49.mono (Mem.un_le (Mem.un_left le_36) (ln_16.trans (hS.sndA hA)))
   refine ne (hS.sub (.cons le_36 (.zz (.rr (.zz (.rr (.zz .nn))))))) fun hs => ?_
   refine h_evs [2, 5] (by kernel_rfl) ⟨⟨_, (bA 10 31), rfl, by kernel_rfl, ?_⟩, ⟨_, (bA 10 59), rfl, by kernel_rfl, ?_⟩, trivial⟩
   ·refine s_load h rfl rfl (hS.load_one (p := 3) rfl U28 rfl rfl) fun a h=>wpList_nil <| x_then_n ⟨(hS.sub (.cons le_36 (.zz (.rr (.zz (.rr (.zz .nn))))))), ?_⟩
    refine h_event 5 (bA 10 63) rfl (by kernel_rfl) (by kernel_rfl) ?_
    obtain ⟨N_53, hS', le_37, lo_13⟩ := hS.freeze 5 rfl
    replace hS : Sep w0 w_65 [N_53, _, _, _, _, _, Mem.no] Z := hS'
    have hq_12 : Reps (Kd.slice Kd.u8) N_53 ([t_13.1] : List (List UInt8)) _ := ((Reps.one (d := (Kd.slice Kd.u8)) (x := t_13.1) ⟨_, rfl, (hr_48.rd lo_13 (Mem.no_le _))⟩).append (Reps.nil (Kd.slice Kd.u8) _))
    refine s_buildSlice h rfl U28 ti22 rfl rfl rfl (.cons (hr_48.rd lo_13 (Mem.no_le _)).cells .nil) rfl rfl rfl hS hq_12 rfl fun w_66 v_65 M_41 hS' ho_31 a h => ?_
    replace hS : Sep w0 w_66 [_, _, _, _, _, _, _, M_41] Z := hS'
    refine ne (hS.sub (.cons (le_36.trans le_37) (.zz (.rr (.zz (.rr (.zz .nn))))))) fun hs => ?_
    refine h_event 6 (bA 10 127) rfl (by kernel_rfl) (by kernel_rfl) <| s_append (J := N_53) (I' := N_53) (p := 5) 5864062014805 h rfl rfl rfl U28 ti22 rfl rfl rfl rfl hS rfl ho_28 (ho_31.src (hS.own 7)) (le_36.trans le_37) mr et_14 fun w_67 v_66 M_42 hS' ho_32 a h => ?_
    replace hS : Sep w0 w_67 [_, _, _, _, _, M_42, _, _] Z := hS'
    refine ne (hS.sub (.cons (le_36.trans le_37) (.zz (.rr (.zz (.rr (.zz .nn))))))) fun hs => ?_
    refine t_take 7 (bA 10 255) rfl rfl rfl rfl h hs (v := .pointer (some ⟨g_2, 0, none⟩)) (fun w hS => r_fieldAddr h U35 rfl ti32 rfl rfl rfl) fun a h=>t_take 8 (bA 10 511) rfl rfl rfl rfl h hs (v := .pointer (some ⟨g_2, 1, none⟩)) (fun w hS => r_fieldAddr h U32 rfl ti28 rfl rfl rfl) fun a h=>h_event 9 (bA 10 1023) rfl (by kernel_rfl) (by kernel_rfl) ?_
    refine sto 3 h rfl rfl hS rfl ti28 ho_32.cellsA rfl rfl (oc ho_32.one on0) fun w_68 hS' => ?_
    replace hS : Sep w0 w_68 [_, _, _, bx g_2 35 [_, v_66, _, _, _], _, _, _, _] Z := hS'
    refine ne (hS.sub (.cons (le_36.trans le_37) (.zz (.rr (.zz (.rr (.zz .nn))))))) fun hs => ?_
    refine h_done (by kernel_rfl) <| x_block_n <| x_then_n (hKJ_12 _ _ ?_)
    refine wp_region_lit <| s_arith (r := w64 (x_25 + 1)) h rfl rfl rfl (.inl ⟨rfl, rfl⟩) fun a h=>mv h rfl fun a h=>wpList_nil <| x_then_n (hKL_4 _ _ ?_)
    exact ⟨w64 (x_25 + 1), t_13.2.1, t_13.2.2, t_14, v_64, v_66, N_53, M_42, H, (h.to rfl), (hS.sel [0, 1, 2, 3, 4, 5] (by decide)), (le_33.trans (le_36.trans le_37)), (hr_50.mono (Mem.un_left le_37)), (ho_32.mono mr)⟩
   ·obtain ⟨N_54, hS', le_38, lo_14⟩ := hS.freeze 5 rfl
    replace hS : Sep w0 w_65 [N_54, _, _, _, _, _, Mem.no] Z := hS'
    have hq_13 : Reps (Kd.slice Kd.u8) N_54 ([t_13.1] : List (List UInt8)) _ := ((Reps.one (d := (Kd.slice Kd.u8)) (x := t_13.1) ⟨_, rfl, (hr_48.rd lo_14 (Mem.no_le _))⟩).append (Reps.nil (Kd.slice Kd.u8) _))
    refine s_buildSlice h rfl U28 ti22 rfl rfl rfl (.cons (hr_48.rd lo_14 (Mem.no_le _)).cells .nil) rfl rfl rfl hS hq_13 rfl fun w_69 v_67 M_43 hS' ho_33 a h => ?_
    replace hS : Sep w0 w_69 [_, _, _, _, _, _, _, M_43] Z := hS'
    refine ne (hS.sub (.cons (le_36.trans le_38) (.zz (.rr (.zz (.rr (.zz .nn))))))) fun hs => ?_
    refine h_event 2 (bA 10 63) rfl (by kernel_rfl) (by kernel_rfl) <| s_load h rfl rfl (hS.load_one (p := 3) rfl U28 rfl rfl) fun a h=>wpList_nil <| x_then_n ⟨(hS.sub (.cons (le_36.trans le_38) (.zz (.rr (.zz (.rr (.zz .nn))))))), ?_⟩
    refine h_event 6 (bA 10 127) rfl (by kernel_rfl) (by kernel_rfl) <| s_append (J := N_54) (I' := N_54) (p := 5) 5864062014805 h rfl rfl rfl U28 ti22 rfl rfl rfl rfl hS rfl ho_28 (ho_33.src (hS.own 7)) (le_36.trans le_38) mr et_14 fun w_70 v_68 M_44 hS' ho_34 a h => ?_
    replace hS : Sep w0 w_70 [_, _, _, _, _, M_44, _, _] Z := hS'
    refine ne (hS.sub (.cons (le_36.trans le_38) (.zz (.rr (.zz (.rr (.zz .nn))))))) fun hs => ?_
    refine t_take 7 (bA 10 255) rfl rfl rfl rfl h hs (v := .pointer (some ⟨g_2, 0, none⟩)) (fun w hS => r_fieldAddr h U35 rfl ti32 rfl rfl rfl) fun a h=>t_take 8 (bA 10 511) rfl rfl rfl rfl h hs (v := .pointer (some ⟨g_2, 1, none⟩)) (fun w hS => r_fieldAddr h U32 rfl ti28 rfl rfl rfl) fun a h=>h_event 9 (bA 10 1023) rfl (by kernel_rfl) (by kernel_rfl) ?_
    refine sto 3 h rfl rfl hS rfl ti28 ho_34.cellsA rfl rfl (oc ho_34.one on0) fun w_71 hS' => ?_
    replace hS : Sep w0 w_71 [_, _, _, bx g_2 35 [_, v_68, _, _, _], _, _, _, _] Z := hS'
    refine ne (hS.sub (.cons (le_36.trans le_38) (.zz (.rr (.zz (.rr (.zz .nn))))))) fun hs => ?_
    refine h_done (by kernel_rfl) <| x_block_n <| x_then_n (hKJ_12 _ _ ?_)
    refine wp_region_lit <| s_arith (r := w64 (x_25 + 1)) h rfl rfl rfl (.inl ⟨rfl, rfl⟩) fun a h=>mv h rfl fun a h=>wpList_nil <| x_then_n (hKL_4 _ _ ?_)
    exact ⟨w64 (x_25 + 1), t_13.2.1, t_13.2.2, t_14, v_64, v_68, N_54, M_44, H, (h.to rfl), (hS.sel [0, 1, 2, 3, 4, 5] (by decide)), (le_33.trans (le_36.trans le_38)), (hr_50.mono (Mem.un_left le_38)), (ho_34.mono mr)⟩
 ·refine c_cond_f h rfl (df hc_4) <| wp_exit (x_then_x (x_then_x (x_block_t ?_)))
  exact x_then_n (hJ_j_1 x_26 x_27 x_28 H _ _ ⟨v_57, v_58, N_47, M_36, (h.to rfl), (hS.sel [0, 1, 2, 3, 4, 5] (by decide)), le_33, hr_44, (ho_28.mono mr)⟩)

set_option maxHeartbeats 4000000 in
set_option maxRecDepth 20000 in
theorem slices_Index_sint_int.calls (K : Nat) (x0 : List Int) (p0_0 : Value) (x1 : Int) (r : Int) (w0 w : World) (Z A : Mem) (hA : A.le Z) (hS : Sep w0 w [] Z) (hp0_0 : Rd (Kd.int .i64) A p0_0 x0)
    (H : slices_Index_sint_int.f K x0 x1 = some r) :
    Calls Try.prog 119 [p0_0, iV x1].toArray w (Ret fun v w' => ∃ (N : Mem), v = iV r ∧ Sep w0 w' [N] Z) := by
 unfold slices_Index_sint_int.f at H
 refine f_enter _ Try.func119 rfl Try.ntmps119 rfl fun a h=>?_
 replace h : Fr 19 a [(0, p0_0), (1, iV x1)] := h
 replace hS := hS.start
 refine qr <| sg h rfl fun a h=>nx <| c_seq fun KJ_1 hKJ_1 => qr <| mv h rfl fun a h=>s_len h rfl U29 rfl hp0_0 fun a h=>mv h rfl fun a h=>wpList_nil <| x_then_n ?_
 have hJ_j_1 : slices_Index_sint_int.J1 K = some r → ∀ (a : Act) (w_1 : World), (∃ (N_1 : Mem), Fr 19 a [(4, iV 0)] ∧ Sep w0 w_1 [N_1] Z ∧ Mem.no.le N_1) → KJ_1 a w_1 := by
  clear H h hS a
  rintro H a w_1 ⟨N_1, h, hS, le_1⟩
  unfold slices_Index_sint_int.J1 at H
  refine hKJ_1 _ _ <| qr <| sg h rfl fun a h=>nx <| wp_ret ?_
  obtain rfl := Option.some.inj H
  exact r1 h 4 rfl rfl ⟨_, rfl, N_1, rfl, (hS.sel [0] (by decide))⟩
 clear hKJ_1
 refine c_block <| c_loop (fun k_1 a w_2 => ∃ (x_1 : Int) (N_2 : Mem), slices_Index_sint_int.L1 K x0 x1 (fun v => slices_Index_sint_int.J1 K) k_1 x_1 = some r ∧ Fr 19 a [(0, p0_0), (1, iV x1), (4, iV 0), (7, iV (x0.length : Int)), (8, iV x_1)] ∧ Sep w0 w_2 [N_2] Z ∧ Mem.no.le N_2) K ⟨0, Mem.no, H, (h.to rfl), (hS.sel [0] (by decide)), mr⟩ (fun a w h => by obtain ⟨_, _, H, _⟩ := h; cases (show (none : Option (Int)) = some r from H)) ?_
 clear h hS a H
 rintro k_1 a w_2 KL_1 hKL_1 ⟨x_1, N_2, H, h, hS, le_2⟩
 replace H : slices_Index_sint_int.B1 K x0 x1 (fun v => slices_Index_sint_int.J1 K) (slices_Index_sint_int.L1 K x0 x1 (fun v => slices_Index_sint_int.J1 K) k_1) x_1 = some r := H
 unfold slices_Index_sint_int.B1 at H
 refine qr <| s_cmp (b := decide (x_1 < (x0.length : Int))) h rfl rfl rfl (.inr (.inr (.inl ⟨rfl, rfl⟩))) fun a h=>nx <| c_seq fun KJ_2 hKJ_2 => ?_
 obtain ⟨hc_1, H⟩ | ⟨hc_1, H⟩ := ii H
 ·refine c_cond_t h rfl (dt hc_1) <| wp_skip <| x_then_n (hKJ_2 _ _ ?_)
  refine c_seq fun KJ_3 hKJ_3 => c_block <| qr <| mv h rfl fun a h=>sg h rfl fun a h=>wpList_nil ?_
  replace h : Fr 19 a [(0, _), (1, _), (4, _), (5, iV x_1), (7, _), (8, _)] := h.keep [0, 1, 4, 5, 7, 8]
  refine x_then_n <| qr <| mv h rfl fun a h=>mv h rfl fun a h=>mv h rfl fun a h=>?_
  obtain ⟨t_1, et_1, H⟩ := bs H
  refine v_index h rfl U29 ti3 rfl rfl rfl hp0_0 (hA.trans hS.old) et_1 fun ad_1 cs_1 hk_1 hc_2 => ?_
  obtain rfl := (show cs_1 = [iV t_1] from hk_1)
  intro a h
  refine s_load h rfl rfl (el_one (o := 0) hc_2 U3 rfl rfl) fun a h=>s_cmp (b := (x1 == t_1)) h rfl rfl rfl (.inl ⟨rfl, rfl⟩) fun a h=>wpList_nil <| x_then_n ?_
  obtain ⟨hc_3, H⟩ | ⟨hc_3, H⟩ := ii H
  ·refine c_cond_t h rfl (bt hc_3) <| qr <| mv h rfl fun a h=>sg h rfl fun a h=>nx <| wp_ret (x_block_r (x_then_r (x_then_r (x_block_r (x_then_r ?_)))))
   obtain rfl := Option.some.inj H
   exact r1 h 4 rfl rfl ⟨_, rfl, N_2, rfl, (hS.sel [0] (by decide))⟩
  ·refine c_cond_f h rfl (bf hc_3) <| wp_skip <| x_block_n <| x_then_n (hKJ_3 _ _ ?_)
   refine wp_region_lit <| s_arith (r := w64 (x_1 + 1)) h rfl rfl rfl (.inl ⟨rfl, rfl⟩) fun a h=>mv h rfl fun a h=>wpList_nil <| x_then_n (hKL_1 _ _ ?_)
   exact ⟨w64 (x_1 + 1), N_2, H, (h.to rfl), (hS.sel [0] (by decide)), le_2⟩
 ·refine c_cond_f h rfl (df hc_1) <| wp_exit (x_then_x (x_then_x (x_block_t ?_)))
  exact x_then_n (hJ_j_1  H _ _ ⟨N_2, (h.to rfl), (hS.sel [0] (by decide)), le_2⟩)

set_option maxHeartbeats 4000000 in
set_option maxRecDepth 20000 in
theorem slices_Contains_sint_int.calls (K : Nat) (x0 : List Int) (p0_0 : Value) (x1 : Int) (r : Bool) (w0 w : World) (Z A : Mem) (hA : A.le Z) (hS : Sep w0 w [] Z) (hp0_0 : Rd (Kd.int .i64) A p0_0 x0)
    (H : slices_Contains_sint_int.f K x0 x1 = some r) :
    Calls Try.prog 92 [p0_0, iV x1].toArray w (Ret fun v w' => ∃ (N : Mem), v = .bool r ∧ Sep w0 w' [N] Z) := by
 unfold slices_Contains_sint_int.f at H
 refine f_enter _ Try.func92 rfl Try.ntmps92 rfl fun a h=>?_
 replace h : Fr 9 a [(0, p0_0), (1, iV x1)] := h
 replace hS := hS.start
 refine qr <| sg h rfl fun a h=>nx <| qr <| mv h rfl fun a h=>mv h rfl fun a h=>?_
 obtain ⟨t_1, et_1, H⟩ := bs H
 refine s_call h rfl Try.call119 rfl (slices_Index_sint_int.calls K x0 _ x1 t_1 w0 _ _ _ mr (hS.enter [] (by decide)) (hp0_0.mono (hA.trans (hS.le_zed []))) et_1) ?_
 rintro _ w_1 ⟨N_1, rfl, hS'⟩
 intro a h
 obtain ⟨N_2, hS'', le_1, ln_1⟩ := hS.call [] (by decide) rfl (l' := []) (ow := []) rfl hS'
 replace hS : Sep w0 w_1 [N_2] Z := hS''
 refine s_cmp (b := decide (t_1 ≥ 0)) h rfl rfl rfl (.inr (.inr (.inr (.inr (.inr ⟨rfl, rfl⟩))))) fun a h=>sg h rfl fun a h=>nx <| wp_ret ?_
 obtain rfl := Option.some.inj H
 exact r1 h 4 rfl rfl ⟨_, rfl, N_2, rfl, (hS.sel [0] (by decide))⟩

set_option maxHeartbeats 4000000 in
set_option maxRecDepth 20000 in
theorem pack_Reader_Ok.calls (g0 : Nat) (x0_b : List UInt8) (p0_0 : Value) (x0_bad : Bool) (r : Bool) (w0 w : World) (Z A : Mem) (hA : A.le Z) (hS : Sep w0 w [bx g0 112 [p0_0, .bool x0_bad]] Z) (hp0_0 : Rd Kd.u8 A p0_0 x0_b)
    (H : pack_Reader_Ok.f x0_b x0_bad = some r) :
    Calls Try.prog 78 [.pointer (some ⟨g0, 0, none⟩)].toArray w (Ret fun v w' => ∃ (N : Mem), v = .bool r ∧ Sep w0 w' [N, bx g0 112 [p0_0, .bool x0_bad]] Z) := by
 unfold pack_Reader_Ok.f at H
 refine f_enter _ Try.func78 rfl Try.ntmps78 rfl fun a h=>?_
 replace h : Fr 8 a [(0, .pointer (some ⟨g0, 0, none⟩))] := h
 replace hS := hS.start
 refine qr <| sg h rfl fun a h=>nx <| qr <| mv h rfl fun a h=>s_nilCheck h rfl rfl fun a h=>s_fieldAddr h rfl U112 rfl ti4 rfl rfl fun a h=>s_load h rfl rfl (hS.load_one (p := 1) rfl U4 rfl rfl) fun a h=>s_not h rfl rfl fun a h=>?_
 refine sg h rfl fun a h=>nx <| wp_ret ?_
 obtain rfl := Option.some.inj H
 exact r1 h 2 rfl rfl ⟨_, rfl, Mem.no, rfl, (hS.sel [0, 1] (by decide))⟩

set_option maxHeartbeats 4000000 in
set_option maxRecDepth 20000 in
theorem mach_GetEntry.calls (K : Nat) (g0 : Nat) (x0_b : List UInt8) (p0_0 : Value) (x0_bad : Bool) (r : api_Entry × (List UInt8) × Bool) (w0 w : World) (Z A : Mem) (hA : A.le Z) (hS : Sep w0 w [bx g0 112 [p0_0, .bool x0_bad]] Z) (hp0_0 : Rd Kd.u8 A p0_0 x0_b)
    (H : mach_GetEntry.f K x0_b x0_bad = some r) :
    Calls Try.prog 58 [.pointer (some ⟨g0, 0, none⟩)].toArray w (Ret fun v w' => ∃ (u0 : Value) (u1 : Value) (u2 : Value) (u3 : Value) (N : Mem) (M0 : Mem) (M1 : Mem) (M2 : Mem), v = .agg (E26 r.1 u0 u1 u2).toArray ∧ Sep w0 w' [N, bx g0 112 [u3, .bool r.2.2], M0, M1, M2] Z ∧ Own Kd.u8 5 M0 Mem.no u0 r.1.Cmd.Key ∧ Own Kd.u8 5 M1 Mem.no u1 r.1.Cmd.Val ∧ Own Kd.u8 5 M2 Mem.no u2 r.1.Cmd.Old ∧ Rd Kd.u8 (A.un N) u3 r.2.1) := by
 unfold mach_GetEntry.f at H
 refine f_enter _ Try.func58 rfl Try.ntmps58 rfl fun a h=>?_
 replace h : Fr 34 a [(0, .pointer (some ⟨g0, 0, none⟩))] := h
 replace hS := hS.start
 refine qr <| v_alloc h rfl ti26 hS fun w_1 g_1 hS' a h => ?_
 replace hS : Sep w0 w_1 [_, _, bx g_1 26 [iV 0, iV 0, iV 0, iV 0, nS, nS, nS]] Z := hS'
 refine nx <| qr <| mv h rfl fun a h=>?_
 obtain ⟨t_1, et_1, H⟩ := bs H
 refine s_call h rfl Try.call55 rfl (pack_Reader_Num.calls K _ x0_b _ x0_bad 1073741824 t_1 w0 _ _ A (hA.trans (hS.le_zed [0])) (hS.enter [0] (by decide)) hp0_0 et_1) ?_
 rintro _ w_2 ⟨v_1, N_1, rfl, hS', hr_1⟩
 intro a h
 obtain ⟨N_2, hS'', le_1, ln_1⟩ := hS.call [0] (by decide) rfl (l' := [_]) (ow := []) rfl hS'
 replace hS : Sep w0 w_2 [N_2, _, _] Z := hS''
 have hr_2 : Rd Kd.u8 (A.un N_2) v_1 t_1.2.1 := hr_1.mono (Mem.un_left ln_1)
 refine mv h rfl fun a h=>?_
 obtain ⟨t_2, et_2, H⟩ := bs H
 refine s_call h rfl Try.call55 rfl (pack_Reader_Num.calls K _ t_1.2.1 _ t_1.2.2 1073741824 t_2 w0 _ _ (A.un N_2) (Mem.un_le (hA.trans (hS.le_zed [0])) (hS.new_zed [0])) (hS.enter [0] (by decide)) hr_2 et_2) ?_
 rintro _ w_3 ⟨v_2, N_3, rfl, hS', hr_3⟩
 intro a h
 obtain ⟨N_4, hS'', le_2, ln_2⟩ := hS.call [0] (by decide) rfl (l' := [_]) (ow := []) rfl hS'
 replace hS : Sep w0 w_3 [N_4, _, _] Z := hS''
 have hr_4 : Rd Kd.u8 (A.un N_4) v_2 t_2.2.1 := hr_3.mono (Mem.un_le (Mem.un_left le_2) (ln_2.trans (hS.sndA hA)))
 refine s_build h rfl ti26 pl26 rfl (.cons rfl (.cons rfl .nil)) (cs := [iV t_1.1, iV t_2.1, iV 0, iV 0, nS, nS, nS]) (by kernel_rfl) fun a h=>v_alloc h rfl ti26 hS fun w_4 g_2 hS' a h => ?_
 replace hS : Sep w0 w_4 [_, _, _, bx g_2 26 [iV 0, iV 0, iV 0, iV 0, nS, nS, nS]] Z := hS'
 refine sto 3 h rfl rfl hS rfl ti26 rfl rfl rfl (oz rfl) fun w_5 hS' => ?_
 replace hS : Sep w0 w_5 [_, _, _, bx g_2 26 [iV t_1.1, iV t_2.1, _, _, _, _, _]] Z := hS'
 refine nx <| qr <| mv h rfl fun a h=>?_
 obtain ⟨t_3, et_3, H⟩ := bs H
 refine s_call h rfl Try.call55 rfl (pack_Reader_Num.calls K _ t_2.2.1 _ t_2.2.2 1073741824 t_3 w0 _ _ (A.un N_4) (Mem.un_le (hA.trans (hS.le_zed [0])) (hS.new_zed [0])) (hS.enter [0] (by decide)) hr_4 et_3) ?_
 rintro _ w_6 ⟨v_3, N_5, rfl, hS', hr_5⟩
 intro a h
 obtain ⟨N_6, hS'', le_3, ln_3⟩ := hS.call [0] (by decide) rfl (l' := [_]) (ow := []) rfl hS'
 replace hS : Sep w0 w_6 [N_6, _, _, _] Z := hS''
 have hr_6 : Rd Kd.u8 (A.un N_6) v_3 t_3.2.1 := hr_5.mono (Mem.un_le (Mem.un_left le_3) (ln_3.trans (hS.sndA hA)))
 refine mv h rfl fun a h=>?_
 obtain ⟨t_4, et_4, H⟩ := bs H
 refine s_call h rfl Try.call55 rfl (pack_Reader_Num.calls K _ t_3.2.1 _ t_3.2.2 1073741824 t_4 w0 _ _ (A.un N_6) (Mem.un_le (hA.trans (hS.le_zed [0])) (hS.new_zed [0])) (hS.enter [0] (by decide)) hr_6 et_4) ?_
 rintro _ w_7 ⟨v_4, N_7, rfl, hS', hr_7⟩
 intro a h
 obtain ⟨N_8, hS'', le_4, ln_4⟩ := hS.call [0] (by decide) rfl (l' := [_]) (ow := []) rfl hS'
 replace hS : Sep w0 w_7 [N_8, _, _, _] Z := hS''
 have hr_8 : Rd Kd.u8 (A.un N_8) v_4 t_4.2.1 := hr_7.mono (Mem.un_le (Mem.un_left le_4) (ln_4.trans (hS.sndA hA)))
 refine s_fieldAddr h rfl U26 rfl ti24 rfl rfl fun a h=>s_fieldAddr h rfl U24 rfl ti3 rfl rfl fun a h=>?_
 refine sto 3 h rfl rfl hS rfl ti3 rfl rfl rfl (oz rfl) fun w_8 hS' => ?_
 replace hS : Sep w0 w_8 [_, _, _, bx g_2 26 [_, _, iV t_3.1, _, _, _, _]] Z := hS'
 refine s_fieldAddr h rfl U26 rfl ti24 rfl rfl fun a h=>s_fieldAddr h rfl U24 rfl ti3 rfl rfl fun a h=>?_
 refine sto 3 h rfl rfl hS rfl ti3 rfl rfl rfl (oz rfl) fun w_9 hS' => ?_
 replace hS : Sep w0 w_9 [_, _, _, bx g_2 26 [_, _, _, iV t_4.1, _, _, _]] Z := hS'
 refine nx <| qr <| mv h rfl fun a h=>?_
 obtain ⟨t_5, et_5, H⟩ := bs H
 refine s_call h rfl Try.call57 rfl (pack_Reader_Bytes.calls K _ t_4.2.1 _ t_4.2.2 32 t_5 w0 _ _ (A.un N_8) (Mem.un_le (hA.trans (hS.le_zed [0])) (hS.new_zed [0])) (hS.enter [0] (by decide)) hr_8 et_5) ?_
 rintro v_5 w_10 ⟨_, v_6, N_9, M_1, rfl, hS', hr_9, hr_10⟩
 intro a h
 obtain ⟨N_10, hS'', le_5, ln_5⟩ := hS.call [0] (by decide) rfl (l' := [_]) (ow := [_]) rfl hS'
 replace hS : Sep w0 w_10 [N_10, _, _, _, _] Z := hS''
 have hr_11 : Rd Kd.u8 (A.un N_10) v_6 t_5.2.1 := hr_10.mono (Mem.un_le (Mem.un_left le_5) (ln_5.trans (hS.sndA hA)))
 refine mv h rfl fun a h=>?_
 obtain ⟨t_6, et_6, H⟩ := bs H
 refine s_call h rfl Try.call57 rfl (pack_Reader_Bytes.calls K _ t_5.2.1 _ t_5.2.2 32 t_6 w0 _ _ (A.un N_10) (Mem.un_le (hA.trans (hS.le_zed [0])) (hS.new_zed [0])) (hS.enter [0] (by decide)) hr_11 et_6) ?_
 rintro v_7 w_11 ⟨_, v_8, N_11, M_2, rfl, hS', hr_12, hr_13⟩
 intro a h
 obtain ⟨N_12, hS'', le_6, ln_6⟩ := hS.call [0] (by decide) rfl (l' := [_]) (ow := [_]) rfl hS'
 replace hS : Sep w0 w_11 [N_12, _, _, _, _, _] Z := hS''
 have hr_14 : Rd Kd.u8 (A.un N_12) v_8 t_6.2.1 := hr_13.mono (Mem.un_le (Mem.un_left le_6) (ln_6.trans (hS.sndA hA)))
 refine mv h rfl fun a h=>?_
 obtain ⟨t_7, et_7, H⟩ := bs H
 refine s_call h rfl Try.call57 rfl (pack_Reader_Bytes.calls K _ t_6.2.1 _ t_6.2.2 32 t_7 w0 _ _ (A.un N_12) (Mem.un_le (hA.trans (hS.le_zed [0])) (hS.new_zed [0])) (hS.enter [0] (by decide)) hr_14 et_7) ?_
 rintro v_9 w_12 ⟨_, v_10, N_13, M_3, rfl, hS', hr_15, hr_16⟩
 intro a h
 obtain ⟨N_14, hS'', le_7, ln_7⟩ := hS.call [0] (by decide) rfl (l' := [_]) (ow := [_]) rfl hS'
 replace hS : Sep w0 w_12 [N_14, _, _, _, _, _, _] Z := hS''
 have hr_17 : Rd Kd.u8 (A.un N_14) v_10 t_7.2.1 := hr_16.mono (Mem.un_le (Mem.un_left le_7) (ln_7.trans (hS.sndA hA)))
 refine s_fieldAddr h rfl U26 rfl ti24 rfl rfl fun a h=>s_fieldAddr h rfl U24 rfl ti22 rfl rfl fun a h=>?_
 refine sto 3 h rfl rfl hS rfl ti22 hr_9.cellsA rfl rfl (oc hr_9.one on0) fun w_13 hS' => ?_
 replace hS : Sep w0 w_13 [_, _, _, bx g_2 26 [_, _, _, _, v_5, _, _], _, _, _] Z := hS'
 refine s_fieldAddr h rfl U26 rfl ti24 rfl rfl fun a h=>s_fieldAddr h rfl U24 rfl ti22 rfl rfl fun a h=>?_
 refine sto 3 h rfl rfl hS rfl ti22 hr_12.cellsA rfl rfl (oc hr_12.one on0) fun w_14 hS' => ?_
 replace hS : Sep w0 w_14 [_, _, _, bx g_2 26 [_, _, _, _, _, v_7, _], _, _, _] Z := hS'
 refine s_fieldAddr h rfl U26 rfl ti24 rfl rfl fun a h=>s_fieldAddr h rfl U24 rfl ti22 rfl rfl fun a h=>?_
 refine sto 3 h rfl rfl hS rfl ti22 hr_15.cellsA rfl rfl (oc hr_15.one on0) fun w_15 hS' => ?_
 replace hS : Sep w0 w_15 [_, _, _, bx g_2 26 [_, _, _, _, _, _, v_9], _, _, _] Z := hS'
 refine wpList_nil ?_
 replace h : Fr 34 a [(0, _), (2, .pointer (some ⟨g_1, 0, none⟩)), (3, .pointer (some ⟨g_2, 0, none⟩))] := h.keep [0, 2, 3]
 refine x_then_n <| c_seq fun KJ_1 hKJ_1 => qr <| mv h rfl fun a h=>?_
 obtain ⟨t_8, et_8, H⟩ := bs H
 refine s_call h rfl Try.call78 rfl (pack_Reader_Ok.calls _ t_7.2.1 _ t_7.2.2 t_8 w0 _ _ _ mr (hS.enter [0] (by decide)) (hr_17.mono (Mem.un_le (hA.trans (hS.le_zed [0])) (mr.trans (hS.new_zed [0])))) et_8) ?_
 rintro _ w_16 ⟨N_15, rfl, hS'⟩
 intro a h
 obtain ⟨N_16, hS'', le_8, ln_8⟩ := hS.call [0] (by decide) rfl (l' := [_]) (ow := []) rfl hS'
 replace hS : Sep w0 w_16 [N_16, _, _, _, _, _, _] Z := hS''
 refine s_not h rfl rfl fun a h=>wpList_nil <| x_then_n ?_
 obtain ⟨hc_1, H⟩ | ⟨hc_1, H⟩ := ii H
 ·refine c_cond_f h rfl (nf hc_1) <| wp_skip <| x_then_n (hKJ_1 _ _ ?_)
  refine qr <| s_load h rfl rfl (hS.load_agg (p := 3) (us := [iV t_1.1, iV t_2.1, iV t_3.1, iV t_4.1, v_5, v_7, v_9]) rfl U26 rfl ti26 rfl rfl) fun a h=>?_
  refine sto 2 h rfl rfl hS rfl ti26 rfl rfl rfl (oa 4 rfl (oc hr_9.one (oc hr_12.one (oc hr_15.one on0)))) fun w_17 hS' => ?_
  replace hS : Sep w0 w_17 [_, _, bx g_1 26 [iV t_1.1, iV t_2.1, iV t_3.1, iV t_4.1, v_5, v_7, v_9], _, _, _, _] Z := hS'
  refine nx <| wp_ret ?_
  obtain rfl := Option.some.inj H
  exact f_ret h (rs := [.cell 2 26]) rfl (.cell rfl (hS.load_agg (p := 2) (us := [iV t_1.1, iV t_2.1, iV t_3.1, iV t_4.1, v_5, v_7, v_9]) rfl U26 rfl ti26 rfl rfl) .nil) ⟨_, rfl, v_5, v_7, v_9, v_10, N_16, M_1, M_2, M_3, rfl, (hS.sel [0, 1, 4, 5, 6] (by decide)), hr_9, hr_12, hr_15, (hr_17.mono (Mem.un_left le_8))⟩
 ·refine c_cond_t h rfl (nt (ef hc_1)) <| qr <| s_build h rfl ti26 pl26 rfl .nil (cs := [iV 0, iV 0, iV 0, iV 0, nS, nS, nS]) (by kernel_rfl) fun a h=>?_
  refine sto 2 h rfl rfl hS rfl ti26 rfl rfl rfl (oz rfl) fun w_18 hS' => ?_
  replace hS : Sep w0 w_18 [_, _, _, _, _, _, _] Z := hS'
  refine nx <| wp_ret (x_then_r ?_)
  have hS' := hS.room
  replace hS : Sep w0 w_18 [_, _, _, _, _, _, _, Mem.no] Z := hS'
  have hS' := hS.room
  replace hS : Sep w0 w_18 [_, _, _, _, _, _, _, _, Mem.no] Z := hS'
  have hS' := hS.room
  replace hS : Sep w0 w_18 [_, _, _, _, _, _, _, _, _, Mem.no] Z := hS'
  obtain rfl := Option.some.inj H
  exact f_ret h (rs := [.cell 2 26]) rfl (.cell rfl (hS.load_agg (p := 2) (us := [iV 0, iV 0, iV 0, iV 0, nS, nS, nS]) rfl U26 rfl ti26 rfl rfl) .nil) ⟨_, rfl, nS, nS, nS, v_10, N_16, Mem.no, Mem.no, Mem.no, rfl, (hS.sel [0, 1, 7, 8, 9] (by decide)), (Own.nil Kd.u8 5 Mem.no), (Own.nil Kd.u8 5 Mem.no), (Own.nil Kd.u8 5 Mem.no), (hr_17.mono (Mem.un_left le_8))⟩

set_option maxHeartbeats 4000000 in
set_option maxRecDepth 20000 in
theorem hocketref1_Next.calls (K : Nat) (x0 : UInt32) (x1 : UInt8) (r : UInt32) (w0 w : World) (Z A : Mem) (hA : A.le Z) (hS : Sep w0 w [] Z)
    (H : hocketref1_Next.f K x0 x1 = some r) :
    Calls Try.prog 60 [.int .u32 (x0.toNat : Int), .int .u8 (x1.toNat : Int)].toArray w (Ret fun v w' => ∃ (N : Mem), v = .int .u32 (r.toNat : Int) ∧ Sep w0 w' [N] Z) := by
 unfold hocketref1_Next.f at H
 refine f_enter _ Try.func60 rfl Try.ntmps60 rfl fun a h=>?_
 replace h : Fr 24 a [(0, .int .u32 (x0.toNat : Int)), (1, .int .u8 (x1.toNat : Int))] := h
 replace hS := hS.start
 refine qr <| sg h rfl fun a h=>nx <| qr <| mv h rfl fun a h=>mv h rfl fun a h=>s_conv (((toU32 (x1.toNat : Int)).toNat : Int)) h rfl U5 U65 rfl (wrap_u32 _).symm fun a h=>s_bits (i := (x0.toNat : Int)) (j := ((toU32 (x1.toNat : Int)).toNat : Int)) (r := ((x0 ^^^ (toU32 (x1.toNat : Int))).toNat : Int)) h rfl rfl rfl (.inr (.inr (.inl ⟨rfl, (bxor32 _ _).symm⟩))) fun a h=>sg h rfl fun a h=>?_
 refine nx <| c_seq fun KJ_1 hKJ_1 => qr <| sg h rfl fun a h=>wpList_nil <| x_then_n ?_
 have hJ_j_1 : ∀ (x_1 : UInt32), hocketref1_Next.J1 K x_1 = some r → ∀ (a : Act) (w_1 : World), (∃ (N_1 : Mem), Fr 24 a [(0, .int .u32 (x_1.toNat : Int)), (4, .int .u32 ((0 : UInt32).toNat : Int))] ∧ Sep w0 w_1 [N_1] Z ∧ Mem.no.le N_1) → KJ_1 a w_1 := by
  clear H h hS a
  rintro x_1 H a w_1 ⟨N_1, h, hS, le_1⟩
  unfold hocketref1_Next.J1 at H
  refine hKJ_1 _ _ <| qr <| mv h rfl fun a h=>sg h rfl fun a h=>wpList_nil ?_
  replace h : Fr 24 a [(4, .int .u32 (x_1.toNat : Int))] := h.keep [4]
  refine x_then_n <| wp_ret ?_
  obtain rfl := Option.some.inj H
  exact r1 h 4 rfl rfl ⟨_, rfl, N_1, rfl, (hS.sel [0] (by decide))⟩
 clear hKJ_1
 refine c_block <| c_loop (fun k_1 a w_2 => ∃ (x_2 : UInt32) (x_3 : Int) (N_2 : Mem), hocketref1_Next.L1 K (fun v => hocketref1_Next.J1 K v) k_1 (x_2, x_3) = some r ∧ Fr 24 a [(0, .int .u32 (x_2.toNat : Int)), (4, .int .u32 ((0 : UInt32).toNat : Int)), (5, iV x_3)] ∧ Sep w0 w_2 [N_2] Z ∧ Mem.no.le N_2) K ⟨x0 ^^^ (toU32 (x1.toNat : Int)), 0, Mem.no, H, (h.to rfl), (hS.sel [0] (by decide)), mr⟩ (fun a w h => by obtain ⟨_, _, _, H, _⟩ := h; cases (show (none : Option (UInt32)) = some r from H)) ?_
 clear h hS a H
 rintro k_1 a w_2 KL_1 hKL_1 ⟨x_2, x_3, N_2, H, h, hS, le_2⟩
 replace H : hocketref1_Next.B1 K (fun v => hocketref1_Next.J1 K v) (hocketref1_Next.L1 K (fun v => hocketref1_Next.J1 K v) k_1) x_2 x_3 = some r := H
 unfold hocketref1_Next.B1 at H
 refine c_seq fun KJ_2 hKJ_2 => qr <| mv h rfl fun a h=>s_cmp (b := decide (x_3 < 8)) h rfl rfl rfl (.inr (.inr (.inl ⟨rfl, rfl⟩))) fun a h=>wpList_nil ?_
 replace h : Fr 24 a [(0, _), (4, _), (5, _), (12, .bool (decide (x_3 < 8)))] := h.keep [0, 4, 5, 12]
 refine x_then_n ?_
 obtain ⟨hc_1, H⟩ | ⟨hc_1, H⟩ := ii H
 ·refine c_cond_t h rfl (dt hc_1) <| wp_skip <| x_then_n (hKJ_2 _ _ ?_)
  refine c_seq fun KJ_3 hKJ_3 => c_block <| qr <| mv h rfl fun a h=>s_bits (i := (x_2.toNat : Int)) (j := ((1 : UInt32).toNat : Int)) (r := ((x_2 &&& (1 : UInt32)).toNat : Int)) h rfl rfl rfl (.inl ⟨rfl, (band32 _ _).symm⟩) fun a h=>sg h rfl fun a h=>nx <| qr <| mv h rfl fun a h=>?_
  refine s_shift (r := ((toU32 (shr .u32 (x_2.toNat : Int) 1)).toNat : Int)) h rfl rfl rfl (by decide) (.inr ⟨rfl, (shr32 _ _).symm⟩) fun a h=>sg h rfl fun a h=>nx <| qr <| mv h rfl fun a h=>s_cmp (b := (((x_2 &&& (1 : UInt32)).toNat : Int) == ((1 : UInt32).toNat : Int))) h rfl rfl rfl (.inl ⟨rfl, rfl⟩) fun a h=>wpList_nil <| x_then_n ?_
  obtain ⟨hc_2, H⟩ | ⟨hc_2, H⟩ := ii H
  ·refine c_cond_t h rfl (bt hc_2) <| wp_region_lit <| mv h rfl fun a h=>s_bits (i := ((toU32 (shr .u32 (x_2.toNat : Int) 1)).toNat : Int)) (j := ((3988292384 : UInt32).toNat : Int)) (r := (((toU32 (shr .u32 (x_2.toNat : Int) 1)) ^^^ (3988292384 : UInt32)).toNat : Int)) h rfl rfl rfl (.inr (.inr (.inl ⟨rfl, (bxor32 _ _).symm⟩))) fun a h=>sg h rfl fun a h=>wpList_nil ?_
   replace h : Fr 24 a [(0, .int .u32 (((toU32 (shr .u32 (x_2.toNat : Int) 1)) ^^^ (3988292384 : UInt32)).toNat : Int)), (4, _), (5, _)] := h.keep [0, 4, 5]
   refine x_block_n <| x_then_n (hKJ_3 _ _ ?_)
   refine wp_region_lit <| mv h rfl fun a h=>s_arith (r := w64 (x_3 + 1)) h rfl rfl rfl (.inl ⟨rfl, rfl⟩) fun a h=>sg h rfl fun a h=>wpList_nil <| x_then_n (hKL_1 _ _ ?_)
   exact ⟨(toU32 (shr .u32 (x_2.toNat : Int) 1)) ^^^ (3988292384 : UInt32), w64 (x_3 + 1), N_2, H, (h.to rfl), (hS.sel [0] (by decide)), le_2⟩
  ·refine c_cond_f h rfl (bf hc_2) <| wp_skip <| x_block_n <| x_then_n (hKJ_3 _ _ ?_)
   refine wp_region_lit <| mv h rfl fun a h=>s_arith (r := w64 (x_3 + 1)) h rfl rfl rfl (.inl ⟨rfl, rfl⟩) fun a h=>sg h rfl fun a h=>wpList_nil ?_
   replace h : Fr 24 a [(0, .int .u32 ((toU32 (shr .u32 (x_2.toNat : Int) 1)).toNat : Int)), (4, _), (5, iV (w64 (x_3 + 1)))] := h.keep [0, 4, 5]
   refine x_then_n (hKL_1 _ _ ?_)
   exact ⟨toU32 (shr .u32 (x_2.toNat : Int) 1), w64 (x_3 + 1), N_2, H, (h.to rfl), (hS.sel [0] (by decide)), le_2⟩
 ·refine c_cond_f h rfl (df hc_1) <| wp_exit (x_then_x (x_then_x (x_block_t ?_)))
  exact x_then_n (hJ_j_1 x_2 H _ _ ⟨N_2, (h.to rfl), (hS.sel [0] (by decide)), le_2⟩)

set_option maxHeartbeats 4000000 in
set_option maxRecDepth 20000 in
theorem hocketref1_Sum.calls (K : Nat) (x0 : List UInt8) (p0_0 : Value) (r : UInt32) (w0 w : World) (Z A : Mem) (hA : A.le Z) (hS : Sep w0 w [] Z) (hp0_0 : Rd Kd.u8 A p0_0 x0)
    (H : hocketref1_Sum.f K x0 = some r) :
    Calls Try.prog 28 [p0_0].toArray w (Ret fun v w' => ∃ (N : Mem), v = .int .u32 (r.toNat : Int) ∧ Sep w0 w' [N] Z) := by
 unfold hocketref1_Sum.f at H
 refine f_enter _ Try.func28 rfl Try.ntmps28 rfl fun a h=>?_
 replace h : Fr 19 a [(0, p0_0)] := h
 replace hS := hS.start
 refine qr <| sg h rfl fun a h=>nx <| qr <| sg h rfl fun a h=>nx <| c_seq fun KJ_1 hKJ_1 => wp_seq <| wp_region_lit ?_
 refine sg h rfl fun a h=>wpList_nil <| x_then_n ?_
 have hJ_j_1 : ∀ (x_1 : UInt32), hocketref1_Sum.J1 K x_1 = some r → ∀ (a : Act) (w_1 : World), (∃ (N_1 : Mem), Fr 19 a [(2, .int .u32 ((0 : UInt32).toNat : Int)), (3, .int .u32 (x_1.toNat : Int))] ∧ Sep w0 w_1 [N_1] Z ∧ Mem.no.le N_1) → KJ_1 a w_1 := by
  clear H h hS a
  rintro x_1 H a w_1 ⟨N_1, h, hS, le_1⟩
  unfold hocketref1_Sum.J1 at H
  refine hKJ_1 _ _ <| qr <| mv h rfl fun a h=>s_bits (i := (x_1.toNat : Int)) (j := ((4294967295 : UInt32).toNat : Int)) (r := ((x_1 ^^^ (4294967295 : UInt32)).toNat : Int)) h rfl rfl rfl (.inr (.inr (.inl ⟨rfl, (bxor32 _ _).symm⟩))) fun a h=>sg h rfl fun a h=>wpList_nil ?_
  replace h : Fr 19 a [(2, .int .u32 ((x_1 ^^^ (4294967295 : UInt32)).toNat : Int))] := h.keep [2]
  refine x_then_n <| wp_ret ?_
  obtain rfl := Option.some.inj H
  exact r1 h 2 rfl rfl ⟨_, rfl, N_1, rfl, (hS.sel [0] (by decide))⟩
 clear hKJ_1
 refine c_block <| c_loop (fun k_1 a w_2 => ∃ (x_2 : UInt32) (x_3 : Int) (N_2 : Mem), hocketref1_Sum.L1 K x0 (fun v => hocketref1_Sum.J1 K v) k_1 (x_2, x_3) = some r ∧ Fr 19 a [(0, p0_0), (2, .int .u32 ((0 : UInt32).toNat : Int)), (3, .int .u32 (x_2.toNat : Int)), (4, iV x_3)] ∧ Sep w0 w_2 [N_2] Z ∧ Mem.no.le N_2) K ⟨(4294967295 : UInt32), 0, Mem.no, H, (h.to rfl), (hS.sel [0] (by decide)), mr⟩ (fun a w h => by obtain ⟨_, _, _, H, _⟩ := h; cases (show (none : Option (UInt32)) = some r from H)) ?_
 clear h hS a H
 rintro k_1 a w_2 KL_1 hKL_1 ⟨x_2, x_3, N_2, H, h, hS, le_2⟩
 replace H : hocketref1_Sum.B1 K x0 (fun v => hocketref1_Sum.J1 K v) (hocketref1_Sum.L1 K x0 (fun v => hocketref1_Sum.J1 K v) k_1) x_2 x_3 = some r := H
 unfold hocketref1_Sum.B1 at H
 refine c_seq fun KJ_2 hKJ_2 => qr <| mv h rfl fun a h=>mv h rfl fun a h=>s_len h rfl U22 rfl hp0_0 fun a h=>s_cmp (b := decide (x_3 < (x0.length : Int))) h rfl rfl rfl (.inr (.inr (.inl ⟨rfl, rfl⟩))) fun a h=>wpList_nil ?_
 replace h : Fr 19 a [(0, _), (2, _), (3, _), (4, _), (8, .bool (decide (x_3 < (x0.length : Int))))] := h.keep [0, 2, 3, 4, 8]
 refine x_then_n ?_
 obtain ⟨hc_1, H⟩ | ⟨hc_1, H⟩ := ii H
 ·refine c_cond_t h rfl (dt hc_1) <| wp_skip <| x_then_n (hKJ_2 _ _ ?_)
  refine wp_seq <| c_block <| wp_region_lit <| mv h rfl fun a h=>mv h rfl fun a h=>mv h rfl fun a h=>?_
  obtain ⟨t_1, et_1, H⟩ := bs H
  refine v_index h rfl U22 ti5 rfl rfl rfl hp0_0 (hA.trans hS.old) et_1 fun ad_1 cs_1 hk_1 hc_2 => ?_
  obtain rfl := (show cs_1 = [.int .u8 (t_1.toNat : Int)] from hk_1)
  intro a h
  refine s_load h rfl rfl (el_one (o := 0) hc_2 U5 rfl rfl) fun a h=>?_
  obtain ⟨t_2, et_2, H⟩ := bs H
  refine s_call h rfl Try.call60 rfl (hocketref1_Next.calls K x_2 t_1 t_2 w0 _ _ _ mr (hS.enter [] (by decide))  et_2) ?_
  rintro _ w_3 ⟨N_3, rfl, hS'⟩
  intro a h
  obtain ⟨N_4, hS'', le_3, ln_1⟩ := hS.call [] (by decide) rfl (l' := []) (ow := []) rfl hS'
  replace hS : Sep w0 w_3 [N_4] Z := hS''
  refine sg h rfl fun a h=>wpList_nil <| x_block_n <| x_then_n <| wp_region_lit <| mv h rfl fun a h=>s_arith (r := w64 (x_3 + 1)) h rfl rfl rfl (.inl ⟨rfl, rfl⟩) fun a h=>sg h rfl fun a h=>wpList_nil <| x_then_n (hKL_1 _ _ ?_)
  exact ⟨t_2, w64 (x_3 + 1), N_4, H, (h.to rfl), (hS.sel [0] (by decide)), (le_2.trans le_3)⟩
 ·refine c_cond_f h rfl (df hc_1) <| wp_exit (x_then_x (x_then_x (x_block_t ?_)))
  exact x_then_n (hJ_j_1 x_2 H _ _ ⟨N_2, (h.to rfl), (hS.sel [0] (by decide)), le_2⟩)

set_option maxHeartbeats 4000000 in
set_option maxRecDepth 20000 in
theorem hocketref1_Four.calls (K : Nat) (x0 : List UInt8) (p0_0 : Value) (r : (List UInt8)) (w0 w : World) (Z A : Mem) (hA : A.le Z) (hS : Sep w0 w [] Z) (hp0_0 : Rd Kd.u8 A p0_0 x0)
    (H : hocketref1_Four.f K x0 = some r) :
    Calls Try.prog 10 [p0_0].toArray w (Ret fun v w' => ∃ (u0 : Value) (N : Mem) (M0 : Mem), v = u0 ∧ Sep w0 w' [N, M0] Z ∧ Own Kd.u8 5 M0 Mem.no u0 r) := by
 unfold hocketref1_Four.f at H
 refine f_enter _ Try.func10 rfl Try.ntmps10 rfl fun a h=>?_
 replace h : Fr 20 a [(0, p0_0)] := h
 replace hS := hS.start
 refine qr <| sg h rfl fun a h=>nx <| qr <| mv h rfl fun a h=>?_
 obtain ⟨t_1, et_1, H⟩ := bs H
 refine s_call h rfl Try.call28 rfl (hocketref1_Sum.calls K x0 _ t_1 w0 _ _ _ mr (hS.enter [] (by decide)) (hp0_0.mono (hA.trans (hS.le_zed []))) et_1) ?_
 rintro _ w_1 ⟨N_1, rfl, hS'⟩
 intro a h
 obtain ⟨N_2, hS'', le_1, ln_1⟩ := hS.call [] (by decide) rfl (l' := []) (ow := []) rfl hS'
 replace hS : Sep w0 w_1 [N_2] Z := hS''
 refine sg h rfl fun a h=>nx <| qr <| mv h rfl fun a h=>s_conv (((toU8 (t_1.toNat : Int)).toNat : Int)) h rfl U65 U5 rfl (wrap_u8 _).symm fun a h=>mv h rfl fun a h=>s_shift (r := ((toU32 (shr .u32 (t_1.toNat : Int) 8)).toNat : Int)) h rfl rfl rfl (by decide) (.inr ⟨rfl, (shr32 _ _).symm⟩) fun a h=>s_conv (((toU8 ((toU32 (shr .u32 (t_1.toNat : Int) 8)).toNat : Int)).toNat : Int)) h rfl U65 U5 rfl (wrap_u8 _).symm fun a h=>mv h rfl fun a h=>s_shift (r := ((toU32 (shr .u32 (t_1.toNat : Int) 16)).toNat : Int)) h rfl rfl rfl (by decide) (.inr ⟨rfl, (shr32 _ _).symm⟩) fun a h=>?_
 refine s_conv (((toU8 ((toU32 (shr .u32 (t_1.toNat : Int) 16)).toNat : Int)).toNat : Int)) h rfl U65 U5 rfl (wrap_u8 _).symm fun a h=>mv h rfl fun a h=>s_shift (r := ((toU32 (shr .u32 (t_1.toNat : Int) 24)).toNat : Int)) h rfl rfl rfl (by decide) (.inr ⟨rfl, (shr32 _ _).symm⟩) fun a h=>s_conv (((toU8 ((toU32 (shr .u32 (t_1.toNat : Int) 24)).toNat : Int)).toNat : Int)) h rfl U65 U5 rfl (wrap_u8 _).symm fun a h=>?_
 have hq_1 : Reps Kd.u8 Mem.no ([toU8 (t_1.toNat : Int), toU8 ((toU32 (shr .u32 (t_1.toNat : Int) 8)).toNat : Int), toU8 ((toU32 (shr .u32 (t_1.toNat : Int) 16)).toNat : Int), toU8 ((toU32 (shr .u32 (t_1.toNat : Int) 24)).toNat : Int)] : List UInt8) _ := ((Reps.one (d := Kd.u8) (x := toU8 (t_1.toNat : Int)) (show Kd.u8.K _ _ [.int .u8 ((toU8 (t_1.toNat : Int)).toNat : Int)] from rfl)).append ((Reps.one (d := Kd.u8) (x := toU8 ((toU32 (shr .u32 (t_1.toNat : Int) 8)).toNat : Int)) (show Kd.u8.K _ _ [.int .u8 ((toU8 ((toU32 (shr .u32 (t_1.toNat : Int) 8)).toNat : Int)).toNat : Int)] from rfl)).append ((Reps.one (d := Kd.u8) (x := toU8 ((toU32 (shr .u32 (t_1.toNat : Int) 16)).toNat : Int)) (show Kd.u8.K _ _ [.int .u8 ((toU8 ((toU32 (shr .u32 (t_1.toNat : Int) 16)).toNat : Int)).toNat : Int)] from rfl)).append ((Reps.one (d := Kd.u8) (x := toU8 ((toU32 (shr .u32 (t_1.toNat : Int) 24)).toNat : Int)) (show Kd.u8.K _ _ [.int .u8 ((toU8 ((toU32 (shr .u32 (t_1.toNat : Int) 24)).toNat : Int)).toNat : Int)] from rfl)).append (Reps.nil Kd.u8 _)))))
 refine s_buildSlice h rfl U22 ti5 rfl rfl rfl (.cons rfl (.cons rfl (.cons rfl (.cons rfl .nil)))) rfl rfl rfl hS hq_1 rfl fun w_2 v_1 M_1 hS' ho_1 a h => ?_
 replace hS : Sep w0 w_2 [_, M_1] Z := hS'
 refine mv h rfl fun a h=>?_
 obtain ⟨t_2, et_2, H⟩ := bs H
 refine s_append (J := Mem.no) (I' := Mem.no) (p := 1) 140737488355328 h rfl rfl rfl U22 ti5 rfl rfl rfl rfl hS rfl ho_1 (Src.flat flat_u8 (hp0_0.src (hA.trans hS.old))) mr mr et_2 fun w_3 v_2 M_2 hS' ho_2 a h => ?_
 replace hS : Sep w0 w_3 [_, M_2] Z := hS'
 refine sg h rfl fun a h=>nx <| wp_ret ?_
 obtain rfl := Option.some.inj H
 exact r1 h 2 rfl rfl ⟨_, rfl, v_2, N_2, M_2, rfl, (hS.sel [0, 1] (by decide)), ho_2⟩

set_option maxHeartbeats 4000000 in
set_option maxRecDepth 20000 in
theorem blob_Part.calls (x0 : List UInt8) (p0_0 : Value) (x1 : Int) (r : (List UInt8) × Bool) (w0 w : World) (Z A : Mem) (hA : A.le Z) (hS : Sep w0 w [] Z) (hp0_0 : Rd Kd.u8 A p0_0 x0)
    (H : blob_Part.f x0 x1 = some r) :
    Calls Try.prog 14 [p0_0, iV x1].toArray w (Ret fun v w' => ∃ (u0 : Value) (N : Mem) (M0 : Mem), v = .tuple [u0, .bool r.2].toArray ∧ Sep w0 w' [N, M0] Z ∧ Own Kd.u8 5 M0 Mem.no u0 r.1) := by
 unfold blob_Part.f at H
 refine f_enter _ Try.func14 rfl Try.ntmps14 rfl fun a h=>?_
 replace h : Fr 23 a [(0, p0_0), (1, iV x1)] := h
 replace hS := hS.start
 refine qr <| sg h rfl fun a h=>sg h rfl fun a h=>nx <| c_seq fun KJ_1 hKJ_1 => c_seq fun KJ_2 hKJ_2 => ?_
 have hJ_j_1 : ∀ (x_1 : Bool), blob_Part.J1 x0 x1 x_1 = some r → ∀ (a : Act) (w_1 : World), (∃ (N_1 : Mem), Fr 23 a [(0, p0_0), (1, iV x1), (4, nS), (5, .bool false), (13, .bool x_1)] ∧ Sep w0 w_1 [N_1] Z ∧ Mem.no.le N_1) → KJ_2 a w_1 := by
  clear H h hS a
  rintro x_1 H a w_1 ⟨N_1, h, hS, le_1⟩
  unfold blob_Part.J1 at H
  refine hKJ_2 _ _ ?_
  obtain ⟨hc_1, H⟩ | ⟨hc_1, H⟩ := ii H
  ·refine c_cond_t h rfl hc_1 <| qr <| sg h rfl fun a h=>sg h rfl fun a h=>nx <| wp_ret (x_then_r ?_)
   have hS' := hS.room
   replace hS : Sep w0 w_1 [_, Mem.no] Z := hS'
   obtain rfl := Option.some.inj H
   exact f_ret h (rs := [.tmp 4, .tmp 5]) rfl (.tmp rfl (.tmp rfl .nil)) ⟨_, rfl, nS, N_1, Mem.no, rfl, (hS.sel [0, 1] (by decide)), (Own.nil Kd.u8 5 Mem.no)⟩
  ·refine c_cond_f h rfl (ef hc_1) <| wp_skip <| x_then_n (hKJ_1 _ _ ?_)
   refine qr <| mv h rfl fun a h=>mv h rfl fun a h=>mv h rfl fun a h=>s_arith (r := w64 (x1 + 64)) h rfl rfl rfl (.inl ⟨rfl, rfl⟩) fun a h=>mv h rfl fun a h=>s_len h rfl U22 rfl hp0_0 fun a h=>s_min h rfl rfl rfl fun a h=>?_
   obtain ⟨t_1, et_1, H⟩ := bs H
   refine s_slice h rfl U22 ti5 rfl rfl hp0_0 rfl rfl et_1 fun v_1 hr_1 a h => ?_
   obtain ⟨t_2, et_2, H⟩ := bs H
   refine s_call h rfl Try.call35 rfl (slices_Clone_sbyte_byte.calls t_1 _ t_2 w0 _ _ _ mr (hS.enter [] (by decide)) (hr_1.mono (hA.trans (hS.le_zed []))) et_2) ?_
   rintro v_2 w_2 ⟨_, N_2, M_1, rfl, hS', hr_2⟩
   intro a h
   obtain ⟨N_3, hS'', le_2, ln_1⟩ := hS.call [] (by decide) rfl (l' := []) (ow := [_]) rfl hS'
   replace hS : Sep w0 w_2 [N_3, _] Z := hS''
   refine sg h rfl fun a h=>sg h rfl fun a h=>nx <| wp_ret ?_
   obtain rfl := Option.some.inj H
   exact f_ret h (rs := [.tmp 4, .tmp 5]) rfl (.tmp rfl (.tmp rfl .nil)) ⟨_, rfl, v_2, N_3, M_1, rfl, (hS.sel [0, 1] (by decide)), hr_2⟩
 clear hKJ_2
 refine wp_region_lit <| mv h rfl fun a h=>s_cmp (b := decide (x1 < 0)) h rfl rfl rfl (.inr (.inr (.inl ⟨rfl, rfl⟩))) fun a h=>mv h rfl fun a h=>?_
 obtain ⟨hc_2, H⟩ | ⟨hc_2, H⟩ := ii H
 ·refine of h rfl rfl (dt hc_2) fun a h=>of h rfl rfl (dt hc_2) fun a h=>of h rfl rfl (dt hc_2) fun a h=>of h rfl rfl (dt hc_2) fun a h=>pt h rfl (dt hc_2) fun a h=>wpList_nil ?_
  exact x_then_n (hJ_j_1 true H _ _ ⟨Mem.no, (h.to rfl), (hS.sel [0] (by decide)), mr⟩)
 ·refine s_on h rfl rfl (df hc_2) <| mv h rfl fun a h=>s_on h rfl rfl (df hc_2) <| mv h rfl fun a h=>s_on h rfl rfl (df hc_2) <| s_len h rfl U22 rfl hp0_0 fun a h=>s_on h rfl rfl (df hc_2) <| s_cmp (b := decide (x1 ≥ (x0.length : Int))) h rfl rfl rfl (.inr (.inr (.inr (.inr (.inr ⟨rfl, rfl⟩))))) fun a h=>pf h rfl (df hc_2) fun a h=>wpList_nil ?_
  exact x_then_n (hJ_j_1 (decide (x1 ≥ (x0.length : Int))) H _ _ ⟨Mem.no, (h.to rfl), (hS.sel [0] (by decide)), mr⟩)

set_option maxHeartbeats 4000000 in
set_option maxRecDepth 20000 in
theorem hocketref1_SameInts.calls (K : Nat) (x0 : List Int) (p0_0 : Value) (x1 : List Int) (p1_1 : Value) (r : Bool) (w0 w : World) (Z A : Mem) (hA : A.le Z) (hS : Sep w0 w [] Z) (hp0_0 : Rd (Kd.int .i64) A p0_0 x0) (hp1_1 : Rd (Kd.int .i64) A p1_1 x1)
    (H : hocketref1_SameInts.f K x0 x1 = some r) :
    Calls Try.prog 66 [p0_0, p1_1].toArray w (Ret fun v w' => ∃ (N : Mem), v = .bool r ∧ Sep w0 w' [N] Z) := by
 unfold hocketref1_SameInts.f at H
 refine f_enter _ Try.func66 rfl Try.ntmps66 rfl fun a h=>?_
 replace h : Fr 26 a [(0, p0_0), (1, p1_1)] := h
 replace hS := hS.start
 refine qr <| sg h rfl fun a h=>nx <| c_seq fun KJ_1 hKJ_1 => qr <| mv h rfl fun a h=>s_len h rfl U29 rfl hp0_0 fun a h=>mv h rfl fun a h=>s_len h rfl U29 rfl hp1_1 fun a h=>?_
 refine s_cmp (b := ((x0.length : Int) != (x1.length : Int))) h rfl rfl rfl (.inr (.inl ⟨rfl, rfl⟩)) fun a h=>wpList_nil <| x_then_n ?_
 obtain ⟨hc_1, H⟩ | ⟨hc_1, H⟩ := ii H
 ·refine c_cond_f h rfl (xf hc_1) <| wp_skip <| x_then_n (hKJ_1 _ _ ?_)
  refine c_seq fun KJ_2 hKJ_2 => qr <| sg h rfl fun a h=>wpList_nil <| x_then_n ?_
  have hJ_j_1 : hocketref1_SameInts.J1 K = some r → ∀ (a : Act) (w_1 : World), (∃ (N_1 : Mem), Fr 26 a [(4, .bool false)] ∧ Sep w0 w_1 [N_1] Z ∧ Mem.no.le N_1) → KJ_2 a w_1 := by
   clear H h hS a
   rintro H a w_1 ⟨N_1, h, hS, le_1⟩
   unfold hocketref1_SameInts.J1 at H
   refine hKJ_2 _ _ <| qr <| sg h rfl fun a h=>wpList_nil ?_
   replace h : Fr 26 a [(4, .bool true)] := h.keep [4]
   refine x_then_n <| wp_ret ?_
   obtain rfl := Option.some.inj H
   exact r1 h 4 rfl rfl ⟨_, rfl, N_1, rfl, (hS.sel [0] (by decide))⟩
  clear hKJ_2
  refine c_block <| c_loop (fun k_1 a w_2 => ∃ (x_1 : Int) (N_2 : Mem), hocketref1_SameInts.L1 K x0 x1 (fun v => hocketref1_SameInts.J1 K) k_1 x_1 = some r ∧ Fr 26 a [(0, p0_0), (1, p1_1), (4, .bool false), (5, iV x_1)] ∧ Sep w0 w_2 [N_2] Z ∧ Mem.no.le N_2) K ⟨0, Mem.no, H, (h.to rfl), (hS.sel [0] (by decide)), mr⟩ (fun a w h => by obtain ⟨_, _, H, _⟩ := h; cases (show (none : Option (Bool)) = some r from H)) ?_
  clear h hS a H
  rintro k_1 a w_2 KL_1 hKL_1 ⟨x_1, N_2, H, h, hS, le_2⟩
  replace H : hocketref1_SameInts.B1 K x0 x1 (fun v => hocketref1_SameInts.J1 K) (hocketref1_SameInts.L1 K x0 x1 (fun v => hocketref1_SameInts.J1 K) k_1) x_1 = some r := H
  unfold hocketref1_SameInts.B1 at H
  refine c_seq fun KJ_3 hKJ_3 => qr <| mv h rfl fun a h=>mv h rfl fun a h=>s_len h rfl U29 rfl hp0_0 fun a h=>s_cmp (b := decide (x_1 < (x0.length : Int))) h rfl rfl rfl (.inr (.inr (.inl ⟨rfl, rfl⟩))) fun a h=>wpList_nil ?_
  replace h : Fr 26 a [(0, _), (1, _), (4, _), (5, _), (14, .bool (decide (x_1 < (x0.length : Int))))] := h.keep [0, 1, 4, 5, 14]
  refine x_then_n ?_
  obtain ⟨hc_2, H⟩ | ⟨hc_2, H⟩ := ii H
  ·refine c_cond_t h rfl (dt hc_2) <| wp_skip <| x_then_n (hKJ_3 _ _ ?_)
   refine c_seq fun KJ_4 hKJ_4 => c_block <| c_seq fun KJ_5 hKJ_5 => h_begin (S := fun w => Sep w0 w [N_2] Z) 9 (by kernel_rfl) rfl (bA 9 0) (by kernel_rfl) hS fun w_3 hS => ?_
   refine t_take 0 (bA 9 1) rfl rfl rfl rfl h (hS.sub .ii) (v := p0_0) (fun w hS => r_move h rfl) fun a h=>t_take 1 (bA 9 3) rfl rfl rfl rfl h (hS.sub .ii) (v := iV x_1) (fun w hS => r_move h rfl) fun a h=>?_
   obtain ⟨t_1, et_1, H⟩ := bs H
   refine t_takeE 2 (bA 9 7) rfl rfl rfl rfl h (hS.sub .ii) (f := fun ad => .pointer (some ad)) (r_index h U29 ti3 rfl rfl rfl hp0_0 et_1) ?_
   rintro ad_1 ⟨cs_1, hk_1, hc_3⟩
   obtain rfl := (show cs_1 = [iV t_1] from hk_1)
   intro a h
   refine t_take 3 (bA 9 15) rfl rfl rfl rfl h (hS.sub .ii) (v := iV t_1) (fun w hS => r_load h rfl (el_one (o := 0) (fun j c h => Mem.cell_le (hA.trans hS.old) (hc_3 j c h)) U3 rfl rfl)) fun a h=>t_take 4 (bA 9 31) rfl rfl rfl rfl h (hS.sub .ii) (v := p1_1) (fun w hS => r_move h rfl) fun a h=>t_take 5 (bA 9 63) rfl rfl rfl rfl h (hS.sub .ii) (v := iV x_1) (fun w hS => r_move h rfl) fun a h=>?_
   obtain ⟨t_2, et_2, H⟩ := bs H
   refine t_takeE 6 (bA 9 127) rfl rfl rfl rfl h (hS.sub .ii) (f := fun ad => .pointer (some ad)) (r_index h U29 ti3 rfl rfl rfl hp1_1 et_2) ?_
   rintro ad_2 ⟨cs_2, hk_2, hc_4⟩
   obtain rfl := (show cs_2 = [iV t_2] from hk_2)
   intro a h
   refine t_take 7 (bA 9 255) rfl rfl rfl rfl h (hS.sub .ii) (v := iV t_2) (fun w hS => r_load h rfl (el_one (o := 0) (fun j c h => Mem.cell_le (hA.trans hS.old) (hc_4 j c h)) U3 rfl rfl)) fun a h=>t_take 8 (bA 9 511) rfl rfl rfl rfl h (hS.sub .ii) (v := .bool (t_1 != t_2)) (fun w hS => r_cmp (b := (t_1 != t_2)) h rfl rfl (.inr (.inl ⟨rfl, rfl⟩))) fun a h=>h_done (by kernel_rfl) <| x_then_n (hKJ_5 _ _ ?_)
   obtain ⟨hc_5, H⟩ | ⟨hc_5, H⟩ := ii H
   ·refine c_cond_f h rfl (xf hc_5) <| wp_skip <| x_block_n <| x_then_n (hKJ_4 _ _ ?_)
    refine wp_region_lit <| mv h rfl fun a h=>s_arith (r := w64 (x_1 + 1)) h rfl rfl rfl (.inl ⟨rfl, rfl⟩) fun a h=>sg h rfl fun a h=>wpList_nil <| x_then_n (hKL_1 _ _ ?_)
    exact ⟨w64 (x_1 + 1), N_2, H, (h.to rfl), (hS.sel [0] (by decide)), le_2⟩
   ·refine c_cond_t h rfl (xt hc_5) <| qr <| sg h rfl fun a h=>nx <| wp_ret (x_block_r (x_then_r (x_then_r (x_block_r (x_then_r ?_)))))
    obtain rfl := Option.some.inj H
    exact r1 h 4 rfl rfl ⟨_, rfl, N_2, rfl, (hS.sel [0] (by decide))⟩
  ·refine c_cond_f h rfl (df hc_2) <| wp_exit (x_then_x (x_then_x (x_block_t ?_)))
   exact x_then_n (hJ_j_1  H _ _ ⟨N_2, (h.to rfl), (hS.sel [0] (by decide)), le_2⟩)
 ·refine c_cond_t h rfl (xt hc_1) <| qr <| sg h rfl fun a h=>nx <| wp_ret (x_then_r ?_)
  obtain rfl := Option.some.inj H
  exact r1 h 4 rfl rfl ⟨_, rfl, Mem.no, rfl, (hS.sel [0] (by decide))⟩

set_option maxHeartbeats 4000000 in
set_option maxRecDepth 20000 in
theorem hocketref4_SameEntry.calls (x0 : api_Entry) (p0_0 : Value) (p0_1 : Value) (p0_2 : Value) (x1 : api_Entry) (p1_3 : Value) (p1_4 : Value) (p1_5 : Value) (r : Bool) (w0 w : World) (Z A : Mem) (hA : A.le Z) (hS : Sep w0 w [] Z) (hp0_0 : Rd Kd.u8 A p0_0 x0.Cmd.Key) (hp0_1 : Rd Kd.u8 A p0_1 x0.Cmd.Val) (hp0_2 : Rd Kd.u8 A p0_2 x0.Cmd.Old) (hp1_3 : Rd Kd.u8 A p1_3 x1.Cmd.Key) (hp1_4 : Rd Kd.u8 A p1_4 x1.Cmd.Val) (hp1_5 : Rd Kd.u8 A p1_5 x1.Cmd.Old)
    (H : hocketref4_SameEntry.f x0 x1 = some r) :
    Calls Try.prog 64 [.agg (E26 x0 p0_0 p0_1 p0_2).toArray, .agg (E26 x1 p1_3 p1_4 p1_5).toArray].toArray w (Ret fun v w' => ∃ (N : Mem), v = .bool r ∧ Sep w0 w' [N] Z) := by
 unfold hocketref4_SameEntry.f at H
 refine f_enter _ Try.func64 rfl Try.ntmps64 rfl fun a h=>?_
 replace h : Fr 68 a [(0, .agg (E26 x0 p0_0 p0_1 p0_2).toArray), (1, .agg (E26 x1 p1_3 p1_4 p1_5).toArray)] := h
 replace hS := hS.start
 refine qr <| v_box (vs := (E26 x0 p0_0 p0_1 p0_2)) h rfl rfl rfl hS fun w_1 g_1 hS' a h => ?_
 replace hS : Sep w0 w_1 [_, bx g_1 26 (E26 x0 p0_0 p0_1 p0_2)] Z := hS'
 refine v_box (vs := (E26 x1 p1_3 p1_4 p1_5)) h rfl rfl rfl hS fun w_2 g_2 hS' a h => ?_
 replace hS : Sep w0 w_2 [_, _, bx g_2 26 (E26 x1 p1_3 p1_4 p1_5)] Z := hS'
 refine sg h rfl fun a h=>nx <| c_seq fun KJ_1 hKJ_1 => wp_region_lit <| s_fieldAddr h rfl U26 rfl ti3 rfl rfl fun a h=>s_load h rfl rfl (hS.load_one (p := 1) rfl U3 rfl rfl) fun a h=>s_fieldAddr h rfl U26 rfl ti3 rfl rfl fun a h=>s_load h rfl rfl (hS.load_one (p := 2) rfl U3 rfl rfl) fun a h=>s_cmp (b := (x0.Sess == x1.Sess)) h rfl rfl rfl (.inl ⟨rfl, rfl⟩) fun a h=>mv h rfl fun a h=>?_
 obtain ⟨hc_1, H⟩ | ⟨hc_1, H⟩ := ii H
 ·refine s_on h rfl rfl (bt hc_1) <| s_fieldAddr h rfl U26 rfl ti3 rfl rfl fun a h=>s_on h rfl rfl (bt hc_1) <| s_load h rfl rfl (hS.load_one (p := 1) rfl U3 rfl rfl) fun a h=>s_on h rfl rfl (bt hc_1) <| s_fieldAddr h rfl U26 rfl ti3 rfl rfl fun a h=>s_on h rfl rfl (bt hc_1) <| s_load h rfl rfl (hS.load_one (p := 2) rfl U3 rfl rfl) fun a h=>s_on h rfl rfl (bt hc_1) <| s_cmp (b := (x0.Seq == x1.Seq)) h rfl rfl rfl (.inl ⟨rfl, rfl⟩) fun a h=>pt h rfl (bt hc_1) fun a h=>mv h rfl fun a h=>?_
  obtain ⟨hc_2, H⟩ | ⟨hc_2, H⟩ := ii H
  ·refine s_on h rfl rfl (bt hc_2) <| s_fieldAddr h rfl U26 rfl ti24 rfl rfl fun a h=>s_on h rfl rfl (bt hc_2) <| s_fieldAddr h rfl U24 rfl ti3 rfl rfl fun a h=>s_on h rfl rfl (bt hc_2) <| s_load h rfl rfl (hS.load_one (p := 1) rfl U3 rfl rfl) fun a h=>s_on h rfl rfl (bt hc_2) <| s_fieldAddr h rfl U26 rfl ti24 rfl rfl fun a h=>s_on h rfl rfl (bt hc_2) <| s_fieldAddr h rfl U24 rfl ti3 rfl rfl fun a h=>s_on h rfl rfl (bt hc_2) <| s_load h rfl rfl (hS.load_one (p := 2) rfl U3 rfl rfl) fun a h=>?_
   refine s_on h rfl rfl (bt hc_2) <| s_cmp (b := (x0.Cmd.Kind == x1.Cmd.Kind)) h rfl rfl rfl (.inl ⟨rfl, rfl⟩) fun a h=>pt h rfl (bt hc_2) fun a h=>mv h rfl fun a h=>?_
   obtain ⟨hc_3, H⟩ | ⟨hc_3, H⟩ := ii H
   ·refine s_on h rfl rfl (bt hc_3) <| s_fieldAddr h rfl U26 rfl ti24 rfl rfl fun a h=>s_on h rfl rfl (bt hc_3) <| s_fieldAddr h rfl U24 rfl ti3 rfl rfl fun a h=>s_on h rfl rfl (bt hc_3) <| s_load h rfl rfl (hS.load_one (p := 1) rfl U3 rfl rfl) fun a h=>s_on h rfl rfl (bt hc_3) <| s_fieldAddr h rfl U26 rfl ti24 rfl rfl fun a h=>s_on h rfl rfl (bt hc_3) <| s_fieldAddr h rfl U24 rfl ti3 rfl rfl fun a h=>s_on h rfl rfl (bt hc_3) <| s_load h rfl rfl (hS.load_one (p := 2) rfl U3 rfl rfl) fun a h=>?_
    refine s_on h rfl rfl (bt hc_3) <| s_cmp (b := (x0.Cmd.Who == x1.Cmd.Who)) h rfl rfl rfl (.inl ⟨rfl, rfl⟩) fun a h=>pt h rfl (bt hc_3) fun a h=>mv h rfl fun a h=>?_
    obtain ⟨hc_4, H⟩ | ⟨hc_4, H⟩ := ii H
    ·refine s_on h rfl rfl (bt hc_4) <| s_fieldAddr h rfl U26 rfl ti24 rfl rfl fun a h=>s_on h rfl rfl (bt hc_4) <| s_fieldAddr h rfl U24 rfl ti22 rfl rfl fun a h=>s_on h rfl rfl (bt hc_4) <| s_load h rfl rfl (hS.load_one (p := 1) rfl U22 rfl rfl) fun a h=>s_on h rfl rfl (bt hc_4) <| s_b2s h rfl U22 U5 U9 rfl hp0_0 (hA.trans hS.old) fun a h=>s_on h rfl rfl (bt hc_4) <| s_fieldAddr h rfl U26 rfl ti24 rfl rfl fun a h=>s_on h rfl rfl (bt hc_4) <| s_fieldAddr h rfl U24 rfl ti22 rfl rfl fun a h=>?_
     refine s_on h rfl rfl (bt hc_4) <| s_load h rfl rfl (hS.load_one (p := 2) rfl U22 rfl rfl) fun a h=>s_on h rfl rfl (bt hc_4) <| s_b2s h rfl U22 U5 U9 rfl hp1_3 (hA.trans hS.old) fun a h=>s_on h rfl rfl (bt hc_4) <| s_strEq (b := (x0.Cmd.Key == x1.Cmd.Key)) h rfl rfl rfl (.inl ⟨rfl, rfl⟩) fun a h=>pt h rfl (bt hc_4) fun a h=>mv h rfl fun a h=>?_
     obtain ⟨hc_5, H⟩ | ⟨hc_5, H⟩ := ii H
     ·refine s_on h rfl rfl (bt hc_5) <| s_fieldAddr h rfl U26 rfl ti24 rfl rfl fun a h=>s_on h rfl rfl (bt hc_5) <| s_fieldAddr h rfl U24 rfl ti22 rfl rfl fun a h=>s_on h rfl rfl (bt hc_5) <| s_load h rfl rfl (hS.load_one (p := 1) rfl U22 rfl rfl) fun a h=>s_on h rfl rfl (bt hc_5) <| s_b2s h rfl U22 U5 U9 rfl hp0_1 (hA.trans hS.old) fun a h=>s_on h rfl rfl (bt hc_5) <| s_fieldAddr h rfl U26 rfl ti24 rfl rfl fun a h=>s_on h rfl rfl (bt hc_5) <| s_fieldAddr h rfl U24 rfl ti22 rfl rfl fun a h=>?_
      refine s_on h rfl rfl (bt hc_5) <| s_load h rfl rfl (hS.load_one (p := 2) rfl U22 rfl rfl) fun a h=>s_on h rfl rfl (bt hc_5) <| s_b2s h rfl U22 U5 U9 rfl hp1_4 (hA.trans hS.old) fun a h=>s_on h rfl rfl (bt hc_5) <| s_strEq (b := (x0.Cmd.Val == x1.Cmd.Val)) h rfl rfl rfl (.inl ⟨rfl, rfl⟩) fun a h=>pt h rfl (bt hc_5) fun a h=>mv h rfl fun a h=>?_
      obtain ⟨hc_6, H⟩ | ⟨hc_6, H⟩ := ii H
      ·refine s_on h rfl rfl (bt hc_6) <| s_fieldAddr h rfl U26 rfl ti24 rfl rfl fun a h=>s_on h rfl rfl (bt hc_6) <| s_fieldAddr h rfl U24 rfl ti22 rfl rfl fun a h=>s_on h rfl rfl (bt hc_6) <| s_load h rfl rfl (hS.load_one (p := 1) rfl U22 rfl rfl) fun a h=>s_on h rfl rfl (bt hc_6) <| s_b2s h rfl U22 U5 U9 rfl hp0_2 (hA.trans hS.old) fun a h=>s_on h rfl rfl (bt hc_6) <| s_fieldAddr h rfl U26 rfl ti24 rfl rfl fun a h=>s_on h rfl rfl (bt hc_6) <| s_fieldAddr h rfl U24 rfl ti22 rfl rfl fun a h=>?_
       refine s_on h rfl rfl (bt hc_6) <| s_load h rfl rfl (hS.load_one (p := 2) rfl U22 rfl rfl) fun a h=>s_on h rfl rfl (bt hc_6) <| s_b2s h rfl U22 U5 U9 rfl hp1_5 (hA.trans hS.old) fun a h=>s_on h rfl rfl (bt hc_6) <| s_strEq (b := (x0.Cmd.Old == x1.Cmd.Old)) h rfl rfl rfl (.inl ⟨rfl, rfl⟩) fun a h=>pt h rfl (bt hc_6) fun a h=>sg h rfl fun a h=>wpList_nil <| x_then_n (hKJ_1 _ _ ?_)
       refine wp_ret ?_
       obtain rfl := Option.some.inj H
       exact r1 h 4 rfl rfl ⟨_, rfl, Mem.no, rfl, (hS.sel [0] (by decide))⟩
      ·refine of h rfl rfl (bf hc_6) fun a h=>of h rfl rfl (bf hc_6) fun a h=>of h rfl rfl (bf hc_6) fun a h=>of h rfl rfl (bf hc_6) fun a h=>of h rfl rfl (bf hc_6) fun a h=>of h rfl rfl (bf hc_6) fun a h=>of h rfl rfl (bf hc_6) fun a h=>of h rfl rfl (bf hc_6) fun a h=>of h rfl rfl (bf hc_6) fun a h=>pf h rfl (bf hc_6) fun a h=>sg h rfl fun a h=>wpList_nil <| x_then_n (hKJ_1 _ _ ?_)
       refine wp_ret ?_
       obtain rfl := Option.some.inj H
       exact r1 h 4 rfl rfl ⟨_, rfl, Mem.no, rfl, (hS.sel [0] (by decide))⟩
     ·refine of h rfl rfl (bf hc_5) fun a h=>of h rfl rfl (bf hc_5) fun a h=>of h rfl rfl (bf hc_5) fun a h=>of h rfl rfl (bf hc_5) fun a h=>of h rfl rfl (bf hc_5) fun a h=>of h rfl rfl (bf hc_5) fun a h=>of h rfl rfl (bf hc_5) fun a h=>of h rfl rfl (bf hc_5) fun a h=>of h rfl rfl (bf hc_5) fun a h=>pf h rfl (bf hc_5) fun a h=>mv h rfl fun a h=>oo h rfl rfl fun a h=>?_
      refine oo h rfl rfl fun a h=>oo h rfl rfl fun a h=>oo h rfl rfl fun a h=>oo h rfl rfl fun a h=>oo h rfl rfl fun a h=>oo h rfl rfl fun a h=>oo h rfl rfl fun a h=>oo h rfl rfl fun a h=>pf h rfl rfl fun a h=>sg h rfl fun a h=>wpList_nil <| x_then_n (hKJ_1 _ _ ?_)
      refine wp_ret ?_
      obtain rfl := Option.some.inj H
      exact r1 h 4 rfl rfl ⟨_, rfl, Mem.no, rfl, (hS.sel [0] (by decide))⟩
    ·refine of h rfl rfl (bf hc_4) fun a h=>of h rfl rfl (bf hc_4) fun a h=>of h rfl rfl (bf hc_4) fun a h=>of h rfl rfl (bf hc_4) fun a h=>of h rfl rfl (bf hc_4) fun a h=>of h rfl rfl (bf hc_4) fun a h=>of h rfl rfl (bf hc_4) fun a h=>of h rfl rfl (bf hc_4) fun a h=>of h rfl rfl (bf hc_4) fun a h=>pf h rfl (bf hc_4) fun a h=>mv h rfl fun a h=>oo h rfl rfl fun a h=>?_
     refine oo h rfl rfl fun a h=>oo h rfl rfl fun a h=>oo h rfl rfl fun a h=>oo h rfl rfl fun a h=>oo h rfl rfl fun a h=>oo h rfl rfl fun a h=>oo h rfl rfl fun a h=>oo h rfl rfl fun a h=>pf h rfl rfl fun a h=>mv h rfl fun a h=>oo h rfl rfl fun a h=>oo h rfl rfl fun a h=>?_
     refine oo h rfl rfl fun a h=>oo h rfl rfl fun a h=>oo h rfl rfl fun a h=>oo h rfl rfl fun a h=>oo h rfl rfl fun a h=>oo h rfl rfl fun a h=>oo h rfl rfl fun a h=>pf h rfl rfl fun a h=>sg h rfl fun a h=>wpList_nil <| x_then_n (hKJ_1 _ _ ?_)
     refine wp_ret ?_
     obtain rfl := Option.some.inj H
     exact r1 h 4 rfl rfl ⟨_, rfl, Mem.no, rfl, (hS.sel [0] (by decide))⟩
   ·refine of h rfl rfl (bf hc_3) fun a h=>of h rfl rfl (bf hc_3) fun a h=>of h rfl rfl (bf hc_3) fun a h=>of h rfl rfl (bf hc_3) fun a h=>of h rfl rfl (bf hc_3) fun a h=>of h rfl rfl (bf hc_3) fun a h=>of h rfl rfl (bf hc_3) fun a h=>pf h rfl (bf hc_3) fun a h=>mv h rfl fun a h=>oo h rfl rfl fun a h=>oo h rfl rfl fun a h=>oo h rfl rfl fun a h=>?_
    refine oo h rfl rfl fun a h=>oo h rfl rfl fun a h=>oo h rfl rfl fun a h=>oo h rfl rfl fun a h=>oo h rfl rfl fun a h=>oo h rfl rfl fun a h=>pf h rfl rfl fun a h=>mv h rfl fun a h=>oo h rfl rfl fun a h=>oo h rfl rfl fun a h=>oo h rfl rfl fun a h=>oo h rfl rfl fun a h=>?_
    refine oo h rfl rfl fun a h=>oo h rfl rfl fun a h=>oo h rfl rfl fun a h=>oo h rfl rfl fun a h=>oo h rfl rfl fun a h=>pf h rfl rfl fun a h=>mv h rfl fun a h=>oo h rfl rfl fun a h=>oo h rfl rfl fun a h=>oo h rfl rfl fun a h=>oo h rfl rfl fun a h=>oo h rfl rfl fun a h=>?_
    refine oo h rfl rfl fun a h=>oo h rfl rfl fun a h=>oo h rfl rfl fun a h=>oo h rfl rfl fun a h=>pf h rfl rfl fun a h=>sg h rfl fun a h=>wpList_nil <| x_then_n (hKJ_1 _ _ ?_)
    refine wp_ret ?_
    obtain rfl := Option.some.inj H
    exact r1 h 4 rfl rfl ⟨_, rfl, Mem.no, rfl, (hS.sel [0] (by decide))⟩
  ·refine of h rfl rfl (bf hc_2) fun a h=>of h rfl rfl (bf hc_2) fun a h=>of h rfl rfl (bf hc_2) fun a h=>of h rfl rfl (bf hc_2) fun a h=>of h rfl rfl (bf hc_2) fun a h=>of h rfl rfl (bf hc_2) fun a h=>of h rfl rfl (bf hc_2) fun a h=>pf h rfl (bf hc_2) fun a h=>mv h rfl fun a h=>oo h rfl rfl fun a h=>oo h rfl rfl fun a h=>oo h rfl rfl fun a h=>?_
   refine oo h rfl rfl fun a h=>oo h rfl rfl fun a h=>oo h rfl rfl fun a h=>oo h rfl rfl fun a h=>pf h rfl rfl fun a h=>mv h rfl fun a h=>oo h rfl rfl fun a h=>oo h rfl rfl fun a h=>oo h rfl rfl fun a h=>oo h rfl rfl fun a h=>oo h rfl rfl fun a h=>oo h rfl rfl fun a h=>?_
   refine oo h rfl rfl fun a h=>oo h rfl rfl fun a h=>oo h rfl rfl fun a h=>pf h rfl rfl fun a h=>mv h rfl fun a h=>oo h rfl rfl fun a h=>oo h rfl rfl fun a h=>oo h rfl rfl fun a h=>oo h rfl rfl fun a h=>oo h rfl rfl fun a h=>oo h rfl rfl fun a h=>oo h rfl rfl fun a h=>?_
   refine oo h rfl rfl fun a h=>oo h rfl rfl fun a h=>pf h rfl rfl fun a h=>mv h rfl fun a h=>oo h rfl rfl fun a h=>oo h rfl rfl fun a h=>oo h rfl rfl fun a h=>oo h rfl rfl fun a h=>oo h rfl rfl fun a h=>oo h rfl rfl fun a h=>oo h rfl rfl fun a h=>oo h rfl rfl fun a h=>?_
   refine oo h rfl rfl fun a h=>pf h rfl rfl fun a h=>sg h rfl fun a h=>wpList_nil <| x_then_n (hKJ_1 _ _ ?_)
   refine wp_ret ?_
   obtain rfl := Option.some.inj H
   exact r1 h 4 rfl rfl ⟨_, rfl, Mem.no, rfl, (hS.sel [0] (by decide))⟩
 ·refine of h rfl rfl (bf hc_1) fun a h=>of h rfl rfl (bf hc_1) fun a h=>of h rfl rfl (bf hc_1) fun a h=>of h rfl rfl (bf hc_1) fun a h=>of h rfl rfl (bf hc_1) fun a h=>pf h rfl (bf hc_1) fun a h=>mv h rfl fun a h=>oo h rfl rfl fun a h=>oo h rfl rfl fun a h=>oo h rfl rfl fun a h=>oo h rfl rfl fun a h=>oo h rfl rfl fun a h=>?_
  refine oo h rfl rfl fun a h=>oo h rfl rfl fun a h=>pf h rfl rfl fun a h=>mv h rfl fun a h=>oo h rfl rfl fun a h=>oo h rfl rfl fun a h=>oo h rfl rfl fun a h=>oo h rfl rfl fun a h=>oo h rfl rfl fun a h=>oo h rfl rfl fun a h=>oo h rfl rfl fun a h=>pf h rfl rfl fun a h=>?_
  refine mv h rfl fun a h=>oo h rfl rfl fun a h=>oo h rfl rfl fun a h=>oo h rfl rfl fun a h=>oo h rfl rfl fun a h=>oo h rfl rfl fun a h=>oo h rfl rfl fun a h=>oo h rfl rfl fun a h=>oo h rfl rfl fun a h=>oo h rfl rfl fun a h=>pf h rfl rfl fun a h=>mv h rfl fun a h=>?_
  refine oo h rfl rfl fun a h=>oo h rfl rfl fun a h=>oo h rfl rfl fun a h=>oo h rfl rfl fun a h=>oo h rfl rfl fun a h=>oo h rfl rfl fun a h=>oo h rfl rfl fun a h=>oo h rfl rfl fun a h=>oo h rfl rfl fun a h=>pf h rfl rfl fun a h=>mv h rfl fun a h=>oo h rfl rfl fun a h=>?_
  refine oo h rfl rfl fun a h=>oo h rfl rfl fun a h=>oo h rfl rfl fun a h=>oo h rfl rfl fun a h=>oo h rfl rfl fun a h=>oo h rfl rfl fun a h=>oo h rfl rfl fun a h=>oo h rfl rfl fun a h=>pf h rfl rfl fun a h=>sg h rfl fun a h=>wpList_nil <| x_then_n (hKJ_1 _ _ ?_)
  refine wp_ret ?_
  obtain rfl := Option.some.inj H
  exact r1 h 4 rfl rfl ⟨_, rfl, Mem.no, rfl, (hS.sel [0] (by decide))⟩

set_option maxHeartbeats 4000000 in
set_option maxRecDepth 20000 in
theorem hocketref1_Num.calls (K : Nat) (x0 : List UInt8) (p0_0 : Value) (x1 : Int) (r : (List UInt8)) (w0 w : World) (Z A : Mem) (hA : A.le Z) (hS : Sep w0 w [] Z) (hp0_0 : Rd Kd.u8 A p0_0 x0)
    (H : hocketref1_Num.f K x0 x1 = some r) :
    Calls Try.prog 30 [p0_0, iV x1].toArray w (Ret fun v w' => ∃ (u0 : Value) (N : Mem) (M0 : Mem), v = u0 ∧ Sep w0 w' [N, M0] Z ∧ Own Kd.u8 5 M0 Mem.no u0 r) := by
 unfold hocketref1_Num.f at H
 refine f_enter _ Try.func30 rfl Try.ntmps30 rfl fun a h=>?_
 replace h : Fr 28 a [(0, p0_0), (1, iV x1)] := h
 replace hS := hS.start
 refine qr <| sg h rfl fun a h=>nx <| wp_seq <| wp_region_lit ?_
 have hq_1 : Reps Kd.u8 Mem.no ([] : List UInt8) _ := (Reps.nil Kd.u8 _)
 refine s_buildSlice h rfl U22 ti5 rfl rfl rfl .nil rfl rfl rfl hS hq_1 rfl fun w_1 v_1 M_1 hS' ho_1 a h => ?_
 replace hS : Sep w0 w_1 [_, M_1] Z := hS'
 refine mv h rfl fun a h=>?_
 obtain ⟨t_1, et_1, H⟩ := bs H
 refine s_append (J := Mem.no) (I' := Mem.no) (p := 1) 140737488355328 h rfl rfl rfl U22 ti5 rfl rfl rfl rfl hS rfl ho_1 (Src.flat flat_u8 (hp0_0.src (hA.trans hS.old))) mr mr et_1 fun w_2 v_2 M_2 hS' ho_2 a h => ?_
 replace hS : Sep w0 w_2 [_, M_2] Z := hS'
 refine sg h rfl fun a h=>nx <| qr <| mv h rfl fun a h=>s_max h rfl rfl rfl fun a h=>s_min h rfl rfl rfl fun a h=>sg h rfl fun a h=>nx <| c_seq fun KJ_1 hKJ_1 => ?_
 have hJ_j_1 : ∀ (x_1 : Int), ∀ (x_2 : List UInt8), hocketref1_Num.J1 K x_1 x_2 = some r → ∀ (a : Act) (w_3 : World), (∃ (v_3 : Value) (N_1 : Mem) (M_3 : Mem), Fr 28 a [(1, iV x_1), (4, nS), (5, v_3)] ∧ Sep w0 w_3 [N_1, M_3] Z ∧ Mem.no.le N_1 ∧ Own Kd.u8 5 M_3 Mem.no v_3 x_2) → KJ_1 a w_3 := by
  clear H h hS a
  rintro x_1 x_2 H a w_3 ⟨v_3, N_1, M_3, h, hS, le_1, ho_3⟩
  unfold hocketref1_Num.J1 at H
  refine hKJ_1 _ _ <| qr <| mv h rfl fun a h=>mv h rfl fun a h=>s_conv (((toU8 x_1).toNat : Int)) h rfl U3 U5 rfl (wrap_u8 _).symm fun a h=>?_
  have hq_2 : Reps Kd.u8 Mem.no ([toU8 x_1] : List UInt8) _ := ((Reps.one (d := Kd.u8) (x := toU8 x_1) (show Kd.u8.K _ _ [.int .u8 ((toU8 x_1).toNat : Int)] from rfl)).append (Reps.nil Kd.u8 _))
  refine s_buildSlice h rfl U22 ti5 rfl rfl rfl (.cons rfl .nil) rfl rfl rfl hS hq_2 rfl fun w_4 v_4 M_4 hS' ho_4 a h => ?_
  replace hS : Sep w0 w_4 [_, _, M_4] Z := hS'
  obtain ⟨t_2, et_2, H⟩ := bs H
  refine s_append (J := Mem.no) (I' := Mem.no) (p := 1) 140737488355328 h rfl rfl rfl U22 ti5 rfl rfl rfl rfl hS rfl ho_3 (Src.flat flat_u8 (ho_4.src (hS.own 2))) mr mr et_2 fun w_5 v_5 M_5 hS' ho_5 a h => ?_
  replace hS : Sep w0 w_5 [_, M_5, _] Z := hS'
  refine sg h rfl fun a h=>wpList_nil ?_
  replace h : Fr 28 a [(4, v_5)] := h.keep [4]
  refine x_then_n <| wp_ret ?_
  obtain rfl := Option.some.inj H
  exact r1 h 4 rfl rfl ⟨_, rfl, v_5, N_1, M_5, rfl, (hS.sel [0, 1] (by decide)), ho_5⟩
 clear hKJ_1
 refine c_block <| c_loop (fun k_1 a w_6 => ∃ (x_3 : Int) (x_4 : List UInt8) (v_6 : Value) (N_2 : Mem) (M_6 : Mem), hocketref1_Num.L1 K (fun v => hocketref1_Num.J1 K v.1 v.2) k_1 (x_3, x_4) = some r ∧ Fr 28 a [(1, iV x_3), (4, nS), (5, v_6)] ∧ Sep w0 w_6 [N_2, M_6] Z ∧ Mem.no.le N_2 ∧ Own Kd.u8 5 M_6 Mem.no v_6 x_4) K ⟨mn (mx x1 0) 4611686018427387904, t_1, v_2, Mem.no, M_2, H, (h.to rfl), (hS.sel [0, 1] (by decide)), mr, ho_2⟩ (fun a w h => by obtain ⟨_, _, _, _, _, H, _⟩ := h; cases (show (none : Option ((List UInt8))) = some r from H)) ?_
 clear h hS a H
 rintro k_1 a w_6 KL_1 hKL_1 ⟨x_3, x_4, v_6, N_2, M_6, H, h, hS, le_2, ho_6⟩
 replace H : hocketref1_Num.B1 K (fun v => hocketref1_Num.J1 K v.1 v.2) (hocketref1_Num.L1 K (fun v => hocketref1_Num.J1 K v.1 v.2) k_1) x_3 x_4 = some r := H
 unfold hocketref1_Num.B1 at H
 refine c_seq fun KJ_2 hKJ_2 => qr <| mv h rfl fun a h=>s_cmp (b := decide (x_3 > 127)) h rfl rfl rfl (.inr (.inr (.inr (.inr (.inl ⟨rfl, rfl⟩))))) fun a h=>wpList_nil ?_
 replace h : Fr 28 a [(1, _), (4, _), (5, _), (13, .bool (decide (x_3 > 127)))] := h.keep [1, 4, 5, 13]
 refine x_then_n ?_
 obtain ⟨hc_1, H⟩ | ⟨hc_1, H⟩ := ii H
 ·refine c_cond_t h rfl (dt hc_1) <| wp_skip <| x_then_n (hKJ_2 _ _ ?_)
  refine c_block <| qr <| mv h rfl fun a h=>mv h rfl fun a h=>s_bits (i := x_3) (j := 127) (r := band .i64 x_3 127) h rfl rfl rfl (.inl ⟨rfl, rfl⟩) fun a h=>s_bits (i := band .i64 x_3 127) (j := 128) (r := bor .i64 (band .i64 x_3 127) 128) h rfl rfl rfl (.inr (.inl ⟨rfl, rfl⟩)) fun a h=>s_conv (((toU8 (bor .i64 (band .i64 x_3 127) 128)).toNat : Int)) h rfl U3 U5 rfl (wrap_u8 _).symm fun a h=>?_
  have hq_3 : Reps Kd.u8 Mem.no ([toU8 (bor .i64 (band .i64 x_3 127) 128)] : List UInt8) _ := ((Reps.one (d := Kd.u8) (x := toU8 (bor .i64 (band .i64 x_3 127) 128)) (show Kd.u8.K _ _ [.int .u8 ((toU8 (bor .i64 (band .i64 x_3 127) 128)).toNat : Int)] from rfl)).append (Reps.nil Kd.u8 _))
  refine s_buildSlice h rfl U22 ti5 rfl rfl rfl (.cons rfl .nil) rfl rfl rfl hS hq_3 rfl fun w_7 v_7 M_7 hS' ho_7 a h => ?_
  replace hS : Sep w0 w_7 [_, _, M_7] Z := hS'
  obtain ⟨t_3, et_3, H⟩ := bs H
  refine s_append (J := Mem.no) (I' := Mem.no) (p := 1) 140737488355328 h rfl rfl rfl U22 ti5 rfl rfl rfl rfl hS rfl ho_6 (Src.flat flat_u8 (ho_7.src (hS.own 2))) mr mr et_3 fun w_8 v_8 M_8 hS' ho_8 a h => ?_
  replace hS : Sep w0 w_8 [_, M_8, _] Z := hS'
  refine sg h rfl fun a h=>nx <| wp_region_lit <| mv h rfl fun a h=>s_shift (r := shr .i64 x_3 7) h rfl rfl rfl (by decide) (.inr ⟨rfl, rfl⟩) fun a h=>sg h rfl fun a h=>wpList_nil <| x_block_n <| x_then_n (hKL_1 _ _ ?_)
  exact ⟨shr .i64 x_3 7, t_3, v_8, N_2, M_8, H, (h.to rfl), (hS.sel [0, 1] (by decide)), le_2, ho_8⟩
 ·refine c_cond_f h rfl (df hc_1) <| wp_exit (x_then_x (x_then_x (x_block_t ?_)))
  exact x_then_n (hJ_j_1 x_3 x_4 H _ _ ⟨v_6, N_2, M_6, (h.to rfl), (hS.sel [0, 1] (by decide)), le_2, ho_6⟩)

set_option maxHeartbeats 4000000 in
set_option maxRecDepth 20000 in
theorem hocketref1_Bytes.calls (K : Nat) (x0 : List UInt8) (p0_0 : Value) (x1 : List UInt8) (p1_1 : Value) (r : (List UInt8)) (w0 w : World) (Z A : Mem) (hA : A.le Z) (hS : Sep w0 w [] Z) (hp0_0 : Rd Kd.u8 A p0_0 x0) (hp1_1 : Rd Kd.u8 A p1_1 x1)
    (H : hocketref1_Bytes.f K x0 x1 = some r) :
    Calls Try.prog 29 [p0_0, p1_1].toArray w (Ret fun v w' => ∃ (u0 : Value) (N : Mem) (M0 : Mem), v = u0 ∧ Sep w0 w' [N, M0] Z ∧ Own Kd.u8 5 M0 Mem.no u0 r) := by
 unfold hocketref1_Bytes.f at H
 refine f_enter _ Try.func29 rfl Try.ntmps29 rfl fun a h=>?_
 replace h : Fr 11 a [(0, p0_0), (1, p1_1)] := h
 replace hS := hS.start
 refine qr <| sg h rfl fun a h=>nx <| qr <| mv h rfl fun a h=>mv h rfl fun a h=>s_len h rfl U22 rfl hp1_1 fun a h=>?_
 obtain ⟨t_1, et_1, H⟩ := bs H
 refine s_call h rfl Try.call30 rfl (hocketref1_Num.calls K x0 _ (x1.length : Int) t_1 w0 _ _ _ mr (hS.enter [] (by decide)) (hp0_0.mono (hA.trans (hS.le_zed []))) et_1) ?_
 rintro v_1 w_1 ⟨_, N_1, M_1, rfl, hS', hr_1⟩
 intro a h
 obtain ⟨N_2, hS'', le_1, ln_1⟩ := hS.call [] (by decide) rfl (l' := []) (ow := [_]) rfl hS'
 replace hS : Sep w0 w_1 [N_2, _] Z := hS''
 refine mv h rfl fun a h=>?_
 obtain ⟨t_2, et_2, H⟩ := bs H
 refine s_append (J := Mem.no) (I' := Mem.no) (p := 1) 140737488355328 h rfl rfl rfl U22 ti5 rfl rfl rfl rfl hS rfl hr_1 (Src.flat flat_u8 (hp1_1.src (hA.trans hS.old))) mr mr et_2 fun w_2 v_2 M_2 hS' ho_1 a h => ?_
 replace hS : Sep w0 w_2 [_, M_2] Z := hS'
 refine sg h rfl fun a h=>nx <| wp_ret ?_
 obtain rfl := Option.some.inj H
 exact r1 h 4 rfl rfl ⟨_, rfl, v_2, N_2, M_2, rfl, (hS.sel [0, 1] (by decide)), ho_1⟩


end Go.Proofs
