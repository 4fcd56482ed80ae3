/- What the calls do: each function once. -/
import Derived.Test.YtmcaielgjfpekaaNetsPlaysc0
namespace Go.Proofs
open Go.Gp
set_option linter.unusedVariables false
set_option maxHeartbeats 4000000 in
set_option maxRecDepth 20000 in
theorem slices_Delete_shocket_nets_frame_hocket_nets_frame.calls (x0 : List nets_frame) (p0_0 : Value) (M0_0 : Mem) (x1 : Int) (x2 : Int) (r : (List nets_frame)) (w0 w : World) (Z A : Mem) (hA : A.le Z) (hS : Sep w0 w [M0_0] Z) (hp0_0 : Own k_nets_frame 60 M0_0 A p0_0 x0)
    (H : slices_Delete_shocket_nets_frame_hocket_nets_frame.f x0 x1 x2 = some r) :
    Calls Try.prog 40 [p0_0, iV x1, iV x2].toArray w (Ret fun v w' => ∃ (u0 : Value) (N : Mem) (M0 : Mem), v = u0 ∧ Sep w0 w' [N, Mem.no, M0] Z ∧ Own k_nets_frame 60 M0 (A.un N) u0 r) := by
 unfold slices_Delete_shocket_nets_frame_hocket_nets_frame.f at H
 refine f_enter _ Try.func40 rfl Try.ntmps40 rfl fun a h=>?_
 replace h : Fr 33 a [(0, p0_0), (1, iV x1), (2, iV x2)] := h
 replace hS := hS.start
 refine qr <| sg h rfl fun a h=>nx <| qr <| mv h rfl fun a h=>mv h rfl fun a h=>mv h rfl fun a h=>mv h rfl fun a h=>s_lenO h rfl U56 rfl hp0_0 fun a h=>?_
 obtain ⟨u_1, eu_1, H⟩ := bs H
 refine s_slice3 h rfl U56 ti60 rfl rfl rfl rfl hp0_0 (must_some eu_1) fun v_1 a h => nx <| c_seq fun KJ_1 hKJ_1 => qr <| mv h rfl fun a h=>mv h rfl fun a h=>s_cmp (b := (x1 == x2)) h rfl rfl rfl (.inl ⟨rfl, rfl⟩) fun a h=>wpList_nil <| x_then_n ?_
 obtain ⟨hc_1, H⟩ | ⟨hc_1, H⟩ := ii H
 ·refine c_cond_t h rfl (bt hc_1) <| qr <| mv h rfl fun a h=>sg h rfl fun a h=>wpList_nil ?_
  replace h : Fr 33 a [(0, _), (1, _), (2, _), (6, p0_0)] := h.keep [0, 1, 2, 6]
  refine x_then_n <| wp_ret (x_then_r ?_)
  obtain rfl := Option.some.inj H
  exact r1 h 6 rfl rfl ⟨_, rfl, p0_0, Mem.no, M0_0, rfl, (hS.sel [0, 1000, 1] (by decide)), (hp0_0.mono (Mem.le_un _ _))⟩
 ·refine c_cond_f h rfl (bf hc_1) <| wp_skip <| x_then_n (hKJ_1 _ _ ?_)
  refine qr <| mv h rfl fun a h=>s_lenO h rfl U56 rfl hp0_0 fun a h=>sg h rfl fun a h=>wpList_nil ?_
  replace h : Fr 33 a [(0, _), (1, _), (2, _), (6, nS), (7, iV (x0.length : Int))] := h.keep [0, 1, 2, 6, 7]
  refine x_then_n <| c_seq fun KJ_2 hKJ_2 => h_begin (S := fun w => Sep w0 w [Mem.no, Mem.no] Z) 8 (by kernel_rfl) rfl (bA 8 0) (by kernel_rfl) hS fun w_1 hS => ?_
  refine t_take 0 (bA 8 1) rfl rfl rfl rfl h (hS.sub (.cons mr (.zz .ii))) (v := p0_0) (fun w hS => r_move h rfl) fun a h=>t_take 1 (bA 8 3) rfl rfl rfl rfl h (hS.sub (.cons mr (.zz .ii))) (v := iV x1) (fun w hS => r_move h rfl) fun a h=>t_takeE 2 (bA 8 7) rfl rfl rfl rfl h (hS.sub (.cons mr (.zz .ii))) (f := fun v => v) (r_piece h U56 ti60 rfl rfl hp0_0 (hp0_0.room) rfl rfl (by have := (must_some eu_1); (try simp only [List.length_append, List.length_take, List.length_drop]); omega)) fun v_2 hq_1 a h => t_take 3 (bA 8 15) rfl rfl rfl rfl h (hS.sub (.cons mr (.zz .ii))) (v := p0_0) (fun w hS => r_move h rfl) fun a h=>t_take 4 (bA 8 31) rfl rfl rfl rfl h (hS.sub (.cons mr (.zz .ii))) (v := iV x2) (fun w hS => r_move h rfl) fun a h=>t_takeE 5 (bA 8 63) rfl rfl rfl rfl h (hS.sub (.cons mr (.zz .ii))) (f := fun v => v) (r_piece h U56 ti60 rfl rfl hp0_0 (hp0_0.room) rfl rfl (by have := (must_some eu_1); (try simp only [List.length_append, List.length_take, List.length_drop]); omega)) fun v_3 hq_2 a h => ?_
  refine h_event 6 (bA 8 127) rfl (by kernel_rfl) (by kernel_rfl) <| s_appendP (p := 1) h rfl U56 ti60 rfl rfl rfl hp0_0 (by simpa using hq_1) hq_2 (by have := (must_some eu_1); omega) (by have := (must_some eu_1); omega) hS rfl fun w_2 v_4 M_1 hS' ho_1 hr_1 a h => ?_
  replace hS : Sep w0 w_2 [_, M_1] Z := hS'
  refine wpList_nil <| x_then_n ⟨(hS.sub (.cons mr (.zz .ii))), ?_⟩
  refine t_take 7 (bA 8 255) rfl rfl rfl rfl h (hS.sub (.cons mr (.zz .ii))) (v := v_4) (fun w hS => r_assign h rfl) fun a h=>h_done (by kernel_rfl) <| x_then_n (hKJ_2 _ _ ?_)
  refine qr <| mv h rfl fun a h=>mv h rfl fun a h=>s_lenO h rfl U56 rfl ho_1 fun a h=>mv h rfl fun a h=>s_piece h rfl U56 ti60 rfl rfl ho_1 (hr_1) rfl rfl (by have := (must_some eu_1); (try simp only [List.length_append, List.length_take, List.length_drop]); omega) fun v_5 hq_3 a h => s_clearP (p := 1) h U56 ti60 rfl (by intro u hu; simp only [List.mem_cons, List.not_mem_nil, or_false] at hu; rcases hu with rfl | rfl | rfl | rfl <;> rfl) rfl ho_1 hq_3 (Nat.le_of_eq (Int.toNat_natCast _).symm) hS rfl fun w_3 M_2 hS' ho_2 => ?_
  replace hS : Sep w0 w_3 [_, M_2] Z := hS'
  refine nx <| qr <| mv h rfl fun a h=>sg h rfl fun a h=>nx <| wp_ret ?_
  obtain rfl := Option.some.inj H
  exact r1 h 6 rfl rfl ⟨_, rfl, v_4, Mem.no, M_2, rfl, (hS.sel [0, 1000, 1] (by decide)), (ho_2.mono (Mem.le_un _ _))⟩

set_option maxHeartbeats 4000000 in
set_option maxRecDepth 20000 in
theorem nets_Net_Drop.calls (g0 : Nat) (x0_n : Int) (x0_mask : Int) (x0_l : List nets_frame) (p0_0 : Value) (M0_0 : Mem) (x1 : Int) (r : Bool × Int × Int × (List nets_frame)) (w0 w : World) (Z A : Mem) (hA : A.le Z) (hS : Sep w0 w [bx g0 58 [iV x0_n, iV x0_mask, p0_0], M0_0] Z) (hp0_0 : Own k_nets_frame 60 M0_0 A p0_0 x0_l)
    (H : nets_Net_Drop.f x0_n x0_mask x0_l x1 = some r) :
    Calls Try.prog 24 [.pointer (some ⟨g0, 0, none⟩), iV x1].toArray w (Ret fun v w' => ∃ (u0 : Value) (N : Mem) (M100 : Mem), v = .bool r.1 ∧ Sep w0 w' [N, bx g0 58 [iV r.2.1, iV r.2.2.1, u0], M100] Z ∧ Own k_nets_frame 60 M100 (A.un N) u0 r.2.2.2) := by
 unfold nets_Net_Drop.f at H
 refine f_enter _ Try.func24 rfl Try.ntmps24 rfl fun a h=>?_
 replace h : Fr 20 a [(0, .pointer (some ⟨g0, 0, none⟩)), (1, iV x1)] := h
 replace hS := hS.start
 refine qr <| sg h rfl fun a h=>nx <| c_seq fun KJ_1 hKJ_1 => qr <| mv h rfl fun a h=>mv h rfl fun a h=>?_
 obtain ⟨t_1, et_1, H⟩ := bs H
 refine s_call h rfl Try.call29 rfl (nets_Net_has.calls _ x0_n x0_mask x0_l _ x1 t_1 w0 _ _ _ mr (hS.enter [0] (by decide)) (hp0_0.rd (hS.own_zed [0] 1 (by decide)) (hA.trans (hS.le_zed [0]))) et_1) ?_
 rintro _ w_1 ⟨N_1, rfl, hS'⟩
 intro a h
 obtain ⟨N_2, hS'', le_1, ln_1⟩ := hS.call [0] (by decide) rfl (l' := [_]) (ow := []) rfl hS'
 replace hS : Sep w0 w_1 [N_2, _, _] Z := hS''
 refine s_not h rfl rfl fun a h=>wpList_nil <| x_then_n ?_
 obtain ⟨hc_1, H⟩ | ⟨hc_1, H⟩ := ii H
 ·refine c_cond_f h rfl (nf hc_1) <| wp_skip <| x_then_n (hKJ_1 _ _ ?_)
  refine qr <| mv h rfl fun a h=>mv h rfl fun a h=>s_nilCheck h rfl rfl fun a h=>s_fieldAddr h rfl U58 rfl ti56 rfl rfl fun a h=>s_load h rfl rfl (hS.load_one (p := 1) rfl U56 rfl rfl) fun a h=>mv h rfl fun a h=>mv h rfl fun a h=>s_arith (r := w64 (x1 + 1)) h rfl rfl rfl (.inl ⟨rfl, rfl⟩) fun a h=>?_
  obtain ⟨t_2, et_2, H⟩ := bs H
  refine s_call h rfl Try.call40 rfl (slices_Delete_shocket_nets_frame_hocket_nets_frame.calls x0_l _ _ x1 (w64 (x1 + 1)) t_2 w0 _ _ A (hA.trans (hS.le_zed [1])) (hS.enter [1] (by decide)) (hp0_0.mono mr) et_2) ?_
  rintro v_1 w_2 ⟨_, N_3, M_1, rfl, hS', hr_1⟩
  intro a h
  obtain ⟨N_4, hS'', le_2, ln_2⟩ := hS.call [1] (by decide) rfl (l' := [_]) (ow := [_]) rfl hS'
  replace hS : Sep w0 w_2 [N_4, _, _, _] Z := hS''
  have hr_2 : Own k_nets_frame 60 M_1 (A.un N_4) v_1 t_2 := hr_1.mono (Mem.un_left ln_2)
  refine s_nilCheck h rfl rfl fun a h=>s_fieldAddr h rfl U58 rfl ti56 rfl rfl fun a h=>?_
  refine sto 1 h rfl rfl hS rfl ti56 hr_2.cellsA rfl rfl (oc hr_2.one on0) fun w_3 hS' => ?_
  replace hS : Sep w0 w_3 [_, bx g0 58 [_, _, v_1], _, _] Z := hS'
  refine nx <| qr <| sg h rfl fun a h=>wpList_nil ?_
  replace h : Fr 20 a [(4, .bool true)] := h.keep [4]
  refine x_then_n <| wp_ret ?_
  obtain rfl := Option.some.inj H
  exact r1 h 4 rfl rfl ⟨_, rfl, v_1, N_4, M_1, rfl, (hS.sel [0, 1, 3] (by decide)), (hr_2.mono (Mem.un_left mr))⟩
 ·refine c_cond_t h rfl (nt (ef hc_1)) <| qr <| sg h rfl fun a h=>nx <| wp_ret (x_then_r ?_)
  obtain rfl := Option.some.inj H
  exact r1 h 4 rfl rfl ⟨_, rfl, p0_0, N_2, M0_0, rfl, (hS.sel [0, 1, 2] (by decide)), (hp0_0.mono (Mem.le_un _ _))⟩

set_option maxHeartbeats 4000000 in
set_option maxRecDepth 20000 in
theorem fram_Sound.calls (K : Nat) (x0 : List UInt8) (p0_0 : Value) (r : (List UInt8) × Bool) (w0 w : World) (Z A : Mem) (hA : A.le Z) (hS : Sep w0 w [] Z) (hp0_0 : Rd Kd.u8 A p0_0 x0)
    (H : fram_Sound.f K x0 = some r) :
    Calls Try.prog 43 [p0_0].toArray w (Ret fun v w' => ∃ (u0 : Value) (N : Mem), v = .tuple [u0, .bool r.2].toArray ∧ Sep w0 w' [N] Z ∧ Rd Kd.u8 (A.un N) u0 r.1) := by
 unfold fram_Sound.f at H
 refine f_enter _ Try.func43 rfl Try.ntmps43 rfl fun a h=>?_
 replace h : Fr 37 a [(0, p0_0)] := h
 replace hS := hS.start
 refine qr <| sg h rfl fun a h=>sg h rfl fun a h=>nx <| c_seq fun KJ_1 hKJ_1 => qr <| mv h rfl fun a h=>s_len h rfl U26 rfl hp0_0 fun a h=>s_cmp (b := decide ((x0.length : Int) < 4)) h rfl rfl rfl (.inr (.inr (.inl ⟨rfl, rfl⟩))) fun a h=>?_
 refine wpList_nil <| x_then_n ?_
 obtain ⟨hc_1, H⟩ | ⟨hc_1, H⟩ := ii H
 ·refine c_cond_t h rfl (dt hc_1) <| qr <| sg h rfl fun a h=>sg h rfl fun a h=>nx <| wp_ret (x_then_r ?_)
  obtain rfl := Option.some.inj H
  exact f_ret h (rs := [.tmp 2, .tmp 3]) rfl (.tmp rfl (.tmp rfl .nil)) ⟨_, rfl, nS, Mem.no, rfl, (hS.sel [0] (by decide)), (Rd.nil _ _)⟩
 ·refine c_cond_f h rfl (df hc_1) <| wp_skip <| x_then_n (hKJ_1 _ _ ?_)
  refine c_seq fun KJ_2 hKJ_2 => h_begin (S := fun w => Sep w0 w [Mem.no] Z) 23 (by kernel_rfl) rfl (bA 23 0) (by kernel_rfl) hS fun w_1 hS => ?_
  refine t_take 0 (bA 23 1) rfl rfl rfl rfl h (hS.sub .ii) (v := p0_0) (fun w hS => r_move h rfl) fun a h=>?_
  obtain ⟨t_1, et_1, H⟩ := bs H
  refine t_takeE 1 (bA 23 3) rfl rfl rfl rfl h (hS.sub .ii) (f := fun ad => .pointer (some ad)) (r_index h U26 ti5 rfl rfl rfl hp0_0 et_1) ?_
  rintro ad_1 ⟨cs_1, hk_1, hc_2⟩
  obtain rfl := (show cs_1 = [.int .u8 (t_1.toNat : Int)] from hk_1)
  intro a h
  refine t_take 2 (bA 23 7) rfl rfl rfl rfl h (hS.sub .ii) (v := .int .u8 (t_1.toNat : Int)) (fun w hS => r_load h rfl (el_one (o := 0) (fun j c h => Mem.cell_le (hA.trans hS.old) (hc_2 j c h)) U5 rfl rfl)) fun a h=>t_take 3 (bA 23 15) rfl rfl rfl rfl h (hS.sub .ii) (v := .int .u32 ((toU32 (t_1.toNat : Int)).toNat : Int)) (fun w hS => r_conv (((toU32 (t_1.toNat : Int)).toNat : Int)) h U5 U71 rfl (wrap_u32 _).symm) fun a h=>t_take 4 (bA 23 31) rfl rfl rfl rfl h (hS.sub .ii) (v := p0_0) (fun w hS => r_move h rfl) fun a h=>?_
  obtain ⟨t_2, et_2, H⟩ := bs H
  refine t_takeE 5 (bA 23 63) rfl rfl rfl rfl h (hS.sub .ii) (f := fun ad => .pointer (some ad)) (r_index h U26 ti5 rfl rfl rfl hp0_0 et_2) ?_
  rintro ad_2 ⟨cs_2, hk_2, hc_3⟩
  obtain rfl := (show cs_2 = [.int .u8 (t_2.toNat : Int)] from hk_2)
  intro a h
  refine t_take 6 (bA 23 127) rfl rfl rfl rfl h (hS.sub .ii) (v := .int .u8 (t_2.toNat : Int)) (fun w hS => r_load h rfl (el_one (o := 0) (fun j c h => Mem.cell_le (hA.trans hS.old) (hc_3 j c h)) U5 rfl rfl)) fun a h=>t_take 7 (bA 23 255) rfl rfl rfl rfl h (hS.sub .ii) (v := .int .u32 ((toU32 (t_2.toNat : Int)).toNat : Int)) (fun w hS => r_conv (((toU32 (t_2.toNat : Int)).toNat : Int)) h U5 U71 rfl (wrap_u32 _).symm) fun a h=>t_take 8 (bA 23 511) rfl rfl rfl rfl h (hS.sub .ii) (v := .int .u32 ((toU32 (((toU32 (t_2.toNat : Int)).toNat : Int) * 2 ^ (min (8 : Int).toNat 32))).toNat : Int)) (fun w hS => r_shift (r := ((toU32 (((toU32 (t_2.toNat : Int)).toNat : Int) * 2 ^ (min (8 : Int).toNat 32))).toNat : Int)) h rfl rfl (by decide) (.inl ⟨rfl, (wrap_u32 _).symm⟩)) fun a h=>t_take 9 (bA 23 1023) rfl rfl rfl rfl h (hS.sub .ii) (v := .int .u32 (((toU32 (t_1.toNat : Int)) ||| (toU32 (((toU32 (t_2.toNat : Int)).toNat : Int) * 2 ^ (min (8 : Int).toNat 32)))).toNat : Int)) (fun w hS => r_bits (i := ((toU32 (t_1.toNat : Int)).toNat : Int)) (j := ((toU32 (((toU32 (t_2.toNat : Int)).toNat : Int) * 2 ^ (min (8 : Int).toNat 32))).toNat : Int)) (r := (((toU32 (t_1.toNat : Int)) ||| (toU32 (((toU32 (t_2.toNat : Int)).toNat : Int) * 2 ^ (min (8 : Int).toNat 32)))).toNat : Int)) h rfl rfl (.inr (.inl ⟨rfl, (bor32 _ _).symm⟩))) fun a h=>?_
  refine t_take 10 (bA 23 2047) rfl rfl rfl rfl h (hS.sub .ii) (v := p0_0) (fun w hS => r_move h rfl) fun a h=>?_
  obtain ⟨t_3, et_3, H⟩ := bs H
  refine t_takeE 11 (bA 23 4095) rfl rfl rfl rfl h (hS.sub .ii) (f := fun ad => .pointer (some ad)) (r_index h U26 ti5 rfl rfl rfl hp0_0 et_3) ?_
  rintro ad_3 ⟨cs_3, hk_3, hc_4⟩
  obtain rfl := (show cs_3 = [.int .u8 (t_3.toNat : Int)] from hk_3)
  intro a h
  refine t_take 12 (bA 23 8191) rfl rfl rfl rfl h (hS.sub .ii) (v := .int .u8 (t_3.toNat : Int)) (fun w hS => r_load h rfl (el_one (o := 0) (fun j c h => Mem.cell_le (hA.trans hS.old) (hc_4 j c h)) U5 rfl rfl)) fun a h=>t_take 13 (bA 23 16383) rfl rfl rfl rfl h (hS.sub .ii) (v := .int .u32 ((toU32 (t_3.toNat : Int)).toNat : Int)) (fun w hS => r_conv (((toU32 (t_3.toNat : Int)).toNat : Int)) h U5 U71 rfl (wrap_u32 _).symm) fun a h=>t_take 14 (bA 23 32767) rfl rfl rfl rfl h (hS.sub .ii) (v := .int .u32 ((toU32 (((toU32 (t_3.toNat : Int)).toNat : Int) * 2 ^ (min (16 : Int).toNat 32))).toNat : Int)) (fun w hS => r_shift (r := ((toU32 (((toU32 (t_3.toNat : Int)).toNat : Int) * 2 ^ (min (16 : Int).toNat 32))).toNat : Int)) h rfl rfl (by decide) (.inl ⟨rfl, (wrap_u32 _).symm⟩)) fun a h=>t_take 15 (bA 23 65535) rfl rfl rfl rfl h (hS.sub .ii) (v := .int .u32 ((((toU32 (t_1.toNat : Int)) ||| (toU32 (((toU32 (t_2.toNat : Int)).toNat : Int) * 2 ^ (min (8 : Int).toNat 32)))) ||| (toU32 (((toU32 (t_3.toNat : Int)).toNat : Int) * 2 ^ (min (16 : Int).toNat 32)))).toNat : Int)) (fun w hS => r_bits (i := (((toU32 (t_1.toNat : Int)) ||| (toU32 (((toU32 (t_2.toNat : Int)).toNat : Int) * 2 ^ (min (8 : Int).toNat 32)))).toNat : Int)) (j := ((toU32 (((toU32 (t_3.toNat : Int)).toNat : Int) * 2 ^ (min (16 : Int).toNat 32))).toNat : Int)) (r := ((((toU32 (t_1.toNat : Int)) ||| (toU32 (((toU32 (t_2.toNat : Int)).toNat : Int) * 2 ^ (min (8 : Int).toNat 32)))) ||| (toU32 (((toU32 (t_3.toNat : Int)).toNat : Int) * 2 ^ (min (16 : Int).toNat 32)))).toNat : Int)) h rfl rfl (.inr (.inl ⟨rfl, (bor32 _ _).symm⟩))) fun a h=>?_
  refine t_take 16 (bA 23 131071) rfl rfl rfl rfl h (hS.sub .ii) (v := p0_0) (fun w hS => r_move h rfl) fun a h=>?_
  obtain ⟨t_4, et_4, H⟩ := bs H
  refine t_takeE 17 (bA 23 262143) rfl rfl rfl rfl h (hS.sub .ii) (f := fun ad => .pointer (some ad)) (r_index h U26 ti5 rfl rfl rfl hp0_0 et_4) ?_
  rintro ad_4 ⟨cs_4, hk_4, hc_5⟩
  obtain rfl := (show cs_4 = [.int .u8 (t_4.toNat : Int)] from hk_4)
  intro a h
  refine t_take 18 (bA 23 524287) rfl rfl rfl rfl h (hS.sub .ii) (v := .int .u8 (t_4.toNat : Int)) (fun w hS => r_load h rfl (el_one (o := 0) (fun j c h => Mem.cell_le (hA.trans hS.old) (hc_5 j c h)) U5 rfl rfl)) fun a h=>t_take 19 (bA 23 1048575) rfl rfl rfl rfl h (hS.sub .ii) (v := .int .u32 ((toU32 (t_4.toNat : Int)).toNat : Int)) (fun w hS => r_conv (((toU32 (t_4.toNat : Int)).toNat : Int)) h U5 U71 rfl (wrap_u32 _).symm) fun a h=>t_take 20 (bA 23 2097151) rfl rfl rfl rfl h (hS.sub .ii) (v := .int .u32 ((toU32 (((toU32 (t_4.toNat : Int)).toNat : Int) * 2 ^ (min (24 : Int).toNat 32))).toNat : Int)) (fun w hS => r_shift (r := ((toU32 (((toU32 (t_4.toNat : Int)).toNat : Int) * 2 ^ (min (24 : Int).toNat 32))).toNat : Int)) h rfl rfl (by decide) (.inl ⟨rfl, (wrap_u32 _).symm⟩)) fun a h=>t_take 21 (bA 23 4194303) rfl rfl rfl rfl h (hS.sub .ii) (v := .int .u32 (((((toU32 (t_1.toNat : Int)) ||| (toU32 (((toU32 (t_2.toNat : Int)).toNat : Int) * 2 ^ (min (8 : Int).toNat 32)))) ||| (toU32 (((toU32 (t_3.toNat : Int)).toNat : Int) * 2 ^ (min (16 : Int).toNat 32)))) ||| (toU32 (((toU32 (t_4.toNat : Int)).toNat : Int) * 2 ^ (min (24 : Int).toNat 32)))).toNat : Int)) (fun w hS => r_bits (i := ((((toU32 (t_1.toNat : Int)) ||| (toU32 (((toU32 (t_2.toNat : Int)).toNat : Int) * 2 ^ (min (8 : Int).toNat 32)))) ||| (toU32 (((toU32 (t_3.toNat : Int)).toNat : Int) * 2 ^ (min (16 : Int).toNat 32)))).toNat : Int)) (j := ((toU32 (((toU32 (t_4.toNat : Int)).toNat : Int) * 2 ^ (min (24 : Int).toNat 32))).toNat : Int)) (r := (((((toU32 (t_1.toNat : Int)) ||| (toU32 (((toU32 (t_2.toNat : Int)).toNat : Int) * 2 ^ (min (8 : Int).toNat 32)))) ||| (toU32 (((toU32 (t_3.toNat : Int)).toNat : Int) * 2 ^ (min (16 : Int).toNat 32)))) ||| (toU32 (((toU32 (t_4.toNat : Int)).toNat : Int) * 2 ^ (min (24 : Int).toNat 32)))).toNat : Int)) h rfl rfl (.inr (.inl ⟨rfl, (bor32 _ _).symm⟩))) fun a h=>?_
  refine t_take 22 (bA 23 8388607) rfl rfl rfl rfl h (hS.sub .ii) (v := .int .u32 (((((toU32 (t_1.toNat : Int)) ||| (toU32 (((toU32 (t_2.toNat : Int)).toNat : Int) * 2 ^ (min (8 : Int).toNat 32)))) ||| (toU32 (((toU32 (t_3.toNat : Int)).toNat : Int) * 2 ^ (min (16 : Int).toNat 32)))) ||| (toU32 (((toU32 (t_4.toNat : Int)).toNat : Int) * 2 ^ (min (24 : Int).toNat 32)))).toNat : Int)) (fun w hS => r_assign h rfl) fun a h=>h_done (by kernel_rfl) <| x_then_n (hKJ_2 _ _ ?_)
  refine c_seq fun KJ_3 hKJ_3 => h_begin (S := fun w => Sep w0 w [Mem.no] Z) 9 (by kernel_rfl) rfl (bA 9 0) (by kernel_rfl) hS fun w_2 hS => ?_
  refine t_take 0 (bA 9 1) rfl rfl rfl rfl h (hS.sub .ii) (v := p0_0) (fun w hS => r_move h rfl) fun a h=>?_
  obtain ⟨t_5, et_5, H⟩ := bs H
  refine t_takeE 1 (bA 9 3) rfl rfl rfl rfl h (hS.sub .ii) (f := fun v => v) (r_slice h U26 ti5 rfl rfl hp0_0 rfl rfl et_5) fun v_1 hr_1 a h => t_take 2 (bA 9 7) rfl rfl rfl rfl h (hS.sub .ii) (v := .int .u32 (((((toU32 (t_1.toNat : Int)) ||| (toU32 (((toU32 (t_2.toNat : Int)).toNat : Int) * 2 ^ (min (8 : Int).toNat 32)))) ||| (toU32 (((toU32 (t_3.toNat : Int)).toNat : Int) * 2 ^ (min (16 : Int).toNat 32)))) ||| (toU32 (((toU32 (t_4.toNat : Int)).toNat : Int) * 2 ^ (min (24 : Int).toNat 32)))).toNat : Int)) (fun w hS => r_move h rfl) fun a h=>t_take 3 (bA 9 15) rfl rfl rfl rfl h (hS.sub .ii) (v := p0_0) (fun w hS => r_move h rfl) fun a h=>?_
  obtain ⟨t_6, et_6, H⟩ := bs H
  refine t_takeE 4 (bA 9 31) rfl rfl rfl rfl h (hS.sub .ii) (f := fun v => v) (r_slice h U26 ti5 rfl rfl hp0_0 rfl rfl et_6) fun v_2 hr_2 a h => h_event 5 (bA 9 63) rfl (by kernel_rfl) (by kernel_rfl) ?_
  obtain ⟨t_7, et_7, H⟩ := bs H
  refine s_call h rfl Try.call59 rfl (crcs_Sum.calls K t_6 _ t_7 w0 _ _ _ mr (hS.enter [] (by decide)) (hr_2.mono (hA.trans (hS.le_zed []))) et_7) ?_
  rintro _ w_3 ⟨N_1, rfl, hS'⟩
  intro a h
  obtain ⟨N_2, hS'', le_1, ln_1⟩ := hS.call [] (by decide) rfl (l' := []) (ow := []) rfl hS'
  replace hS : Sep w0 w_3 [N_2] Z := hS''
  refine wpList_nil <| x_then_n ⟨(hS.sub (.cons le_1 .ii)), ?_⟩
  refine t_take 6 (bA 9 127) rfl rfl rfl rfl h (hS.sub (.cons le_1 .ii)) (v := .bool ((((((toU32 (t_1.toNat : Int)) ||| (toU32 (((toU32 (t_2.toNat : Int)).toNat : Int) * 2 ^ (min (8 : Int).toNat 32)))) ||| (toU32 (((toU32 (t_3.toNat : Int)).toNat : Int) * 2 ^ (min (16 : Int).toNat 32)))) ||| (toU32 (((toU32 (t_4.toNat : Int)).toNat : Int) * 2 ^ (min (24 : Int).toNat 32)))).toNat : Int) == (t_7.toNat : Int))) (fun w hS => r_cmp (b := ((((((toU32 (t_1.toNat : Int)) ||| (toU32 (((toU32 (t_2.toNat : Int)).toNat : Int) * 2 ^ (min (8 : Int).toNat 32)))) ||| (toU32 (((toU32 (t_3.toNat : Int)).toNat : Int) * 2 ^ (min (16 : Int).toNat 32)))) ||| (toU32 (((toU32 (t_4.toNat : Int)).toNat : Int) * 2 ^ (min (24 : Int).toNat 32)))).toNat : Int) == (t_7.toNat : Int))) h rfl rfl (.inl ⟨rfl, rfl⟩)) fun a h=>t_take 7 (bA 9 255) rfl rfl rfl rfl h (hS.sub (.cons le_1 .ii)) (v := v_1) (fun w hS => r_assign h rfl) fun a h=>t_take 8 (bA 9 511) rfl rfl rfl rfl h (hS.sub (.cons le_1 .ii)) (v := .bool ((((((toU32 (t_1.toNat : Int)) ||| (toU32 (((toU32 (t_2.toNat : Int)).toNat : Int) * 2 ^ (min (8 : Int).toNat 32)))) ||| (toU32 (((toU32 (t_3.toNat : Int)).toNat : Int) * 2 ^ (min (16 : Int).toNat 32)))) ||| (toU32 (((toU32 (t_4.toNat : Int)).toNat : Int) * 2 ^ (min (24 : Int).toNat 32)))).toNat : Int) == (t_7.toNat : Int))) (fun w hS => r_assign h rfl) fun a h=>?_
  refine h_done (by kernel_rfl) ?_
  replace h : Fr 37 a [(2, v_1), (3, .bool ((((((toU32 (t_1.toNat : Int)) ||| (toU32 (((toU32 (t_2.toNat : Int)).toNat : Int) * 2 ^ (min (8 : Int).toNat 32)))) ||| (toU32 (((toU32 (t_3.toNat : Int)).toNat : Int) * 2 ^ (min (16 : Int).toNat 32)))) ||| (toU32 (((toU32 (t_4.toNat : Int)).toNat : Int) * 2 ^ (min (24 : Int).toNat 32)))).toNat : Int) == (t_7.toNat : Int)))] := h.keep [2, 3]
  refine x_then_n (hKJ_3 _ _ ?_)
  refine wp_ret ?_
  obtain rfl := Option.some.inj H
  exact f_ret h (rs := [.tmp 2, .tmp 3]) rfl (.tmp rfl (.tmp rfl .nil)) ⟨_, rfl, v_1, N_2, rfl, (hS.sel [0] (by decide)), (hr_1.mono (Mem.le_un _ _))⟩

set_option maxHeartbeats 4000000 in
set_option maxRecDepth 20000 in
theorem mesg_Decode.calls (K : Nat) (x0 : List UInt8) (p0_0 : Value) (r : api_Msg × Bool) (w0 w : World) (Z A : Mem) (hA : A.le Z) (hS : Sep w0 w [] Z) (hp0_0 : Rd Kd.u8 A p0_0 x0)
    (H : mesg_Decode.f K x0 = some r) :
    Calls Try.prog 44 [p0_0].toArray w (Ret fun v w' => ∃ (u0 : Value) (u1 : Value) (u2 : Value) (u3 : Value) (u4 : Value) (u5 : Value) (N : Mem) (M0 : Mem) (M1 : Mem) (M2 : Mem) (M3 : Mem) (M4 : Mem) (M5 : Mem), v = .tuple [.agg [iV r.1.Kind, iV r.1.From, iV r.1.To, iV r.1.View, iV r.1.Inst, iV r.1.Len, .bool r.1.Has, iV r.1.Members, iV r.1.Source, iV r.1.At, iV r.1.Total, u0, iV r.1.Hop, iV r.1.Seq, u1, u2, iV r.1.Index, iV r.1.Entry.Sess, iV r.1.Entry.Seq, iV r.1.Entry.Cmd.Kind, iV r.1.Entry.Cmd.Who, u3, u4, u5].toArray, .bool r.2].toArray ∧ Sep w0 w' [N, M0, M1, M2, M3, M4, M5] Z ∧ Own Kd.u8 5 M0 Mem.no u0 r.1.Data ∧ Own (Kd.int .i64) 3 M1 Mem.no u1 r.1.Have ∧ Own (Kd.int .i64) 3 M2 Mem.no u2 r.1.Need ∧ Own Kd.u8 5 M3 Mem.no u3 r.1.Entry.Cmd.Key ∧ Own Kd.u8 5 M4 Mem.no u4 r.1.Entry.Cmd.Val ∧ Own Kd.u8 5 M5 Mem.no u5 r.1.Entry.Cmd.Old) := by
 unfold mesg_Decode.f at H
 refine f_enter _ Try.func44 rfl Try.ntmps44 rfl fun a h=>?_
 replace h : Fr 15 a [(0, p0_0)] := h
 replace hS := hS.start
 refine qr <| v_alloc h rfl ti32 hS fun w_1 g_1 hS' a h => ?_
 replace hS : Sep w0 w_1 [_, bx g_1 32 Q0] Z := hS'
 refine sg h rfl fun a h=>nx <| qr <| mv h rfl fun a h=>?_
 obtain ⟨t_1, et_1, H⟩ := bs H
 refine s_call h rfl Try.call57 rfl (mesg_read.calls K x0 _ t_1 w0 _ _ _ mr (hS.enter [] (by decide)) (hp0_0.mono (hA.trans (hS.le_zed []))) et_1) ?_
 rintro _ w_2 ⟨v_1, v_2, v_3, v_4, v_5, v_6, N_1, M_1, M_2, M_3, M_4, M_5, M_6, rfl, hS', hr_1, hr_2, hr_3, hr_4, hr_5, hr_6⟩
 intro a h
 obtain ⟨N_2, hS'', le_1, ln_1⟩ := hS.call [] (by decide) rfl (l' := []) (ow := [_, _, _, _, _, _]) rfl hS'
 replace hS : Sep w0 w_2 [N_2, _, _, _, _, _, _, _] Z := hS''
 refine mv h rfl fun a h=>s_extract h rfl rfl rfl fun a h=>s_extract h rfl rfl rfl fun a h=>v_alloc h rfl ti32 hS fun w_3 g_2 hS' a h => ?_
 replace hS : Sep w0 w_3 [_, _, _, _, _, _, _, _, bx g_2 32 Q0] Z := hS'
 refine sto 8 h rfl rfl hS rfl ti32 rfl rfl rfl (oa 11 rfl (oc hr_1.one (oa 2 rfl (oc hr_2.one (oc hr_3.one (oa 5 rfl (oc hr_4.one (oc hr_5.one (oc hr_6.one on0))))))))) fun w_4 hS' => ?_
 replace hS : Sep w0 w_4 [_, _, _, _, _, _, _, _, bx g_2 32 (E32 t_1.1 v_1 v_2 v_3 v_4 v_5 v_6)] Z := hS'
 refine sg h rfl fun a h=>nx <| c_seq fun KJ_1 hKJ_1 => qr <| mv h rfl fun a h=>s_not h rfl rfl fun a h=>wpList_nil <| x_then_n ?_
 obtain ⟨hc_1, H⟩ | ⟨hc_1, H⟩ := ii H
 ·refine c_cond_f h rfl (nf hc_1) <| wp_skip <| x_then_n (hKJ_1 _ _ ?_)
  refine qr <| s_load h rfl rfl (hS.load_agg (p := 8) (us := (E32 t_1.1 v_1 v_2 v_3 v_4 v_5 v_6)) rfl U32 rfl ti32 rfl rfl) fun a h=>?_
  refine sto 1 h rfl rfl hS rfl ti32 rfl rfl rfl (oa 11 rfl (oc hr_1.one (oa 2 rfl (oc hr_2.one (oc hr_3.one (oa 5 rfl (oc hr_4.one (oc hr_5.one (oc hr_6.one on0))))))))) fun w_5 hS' => ?_
  replace hS : Sep w0 w_5 [_, bx g_1 32 (E32 t_1.1 v_1 v_2 v_3 v_4 v_5 v_6), _, _, _, _, _, _, _] Z := hS'
  refine sg h rfl fun a h=>wpList_nil ?_
  replace h : Fr 15 a [(2, .pointer (some ⟨g_1, 0, none⟩)), (3, .bool true)] := h.keep [2, 3]
  refine x_then_n <| wp_ret ?_
  obtain rfl := Option.some.inj H
  exact f_ret h (rs := [.cell 2 32, .tmp 3]) rfl (.cell rfl (hS.load_agg (p := 1) (us := (E32 t_1.1 v_1 v_2 v_3 v_4 v_5 v_6)) rfl U32 rfl ti32 rfl rfl) (.tmp rfl .nil)) ⟨_, rfl, v_1, v_2, v_3, v_4, v_5, v_6, N_2, M_1, M_2, M_3, M_4, M_5, M_6, rfl, (hS.sel [0, 2, 3, 4, 5, 6, 7] (by decide)), hr_1, hr_2, hr_3, hr_4, hr_5, hr_6⟩
 ·refine c_cond_t h rfl (nt (ef hc_1)) <| qr <| s_build h rfl ti32 pl32 rfl .nil (cs := Q0) (by kernel_rfl) fun a h=>?_
  refine sto 1 h rfl rfl hS rfl ti32 rfl rfl rfl (oz rfl) fun w_6 hS' => ?_
  replace hS : Sep w0 w_6 [_, _, _, _, _, _, _, _, _] Z := hS'
  refine sg h rfl fun a h=>wpList_nil ?_
  replace h : Fr 15 a [(2, .pointer (some ⟨g_1, 0, none⟩)), (3, .bool false), (4, .pointer (some ⟨g_2, 0, none⟩))] := h.keep [2, 3, 4]
  refine x_then_n <| wp_ret (x_then_r ?_)
  have hS' := hS.room
  replace hS : Sep w0 w_6 [_, _, _, _, _, _, _, _, _, Mem.no] Z := hS'
  have hS' := hS.room
  replace hS : Sep w0 w_6 [_, _, _, _, _, _, _, _, _, _, Mem.no] Z := hS'
  have hS' := hS.room
  replace hS : Sep w0 w_6 [_, _, _, _, _, _, _, _, _, _, _, Mem.no] Z := hS'
  have hS' := hS.room
  replace hS : Sep w0 w_6 [_, _, _, _, _, _, _, _, _, _, _, _, Mem.no] Z := hS'
  have hS' := hS.room
  replace hS : Sep w0 w_6 [_, _, _, _, _, _, _, _, _, _, _, _, _, Mem.no] Z := hS'
  have hS' := hS.room
  replace hS : Sep w0 w_6 [_, _, _, _, _, _, _, _, _, _, _, _, _, _, Mem.no] Z := hS'
  obtain rfl := Option.some.inj H
  exact f_ret h (rs := [.cell 2 32, .tmp 3]) rfl (.cell rfl (hS.load_agg (p := 1) (us := Q0) rfl U32 rfl ti32 rfl rfl) (.tmp rfl .nil)) ⟨_, rfl, nS, nS, nS, nS, nS, nS, N_2, Mem.no, Mem.no, Mem.no, Mem.no, Mem.no, Mem.no, rfl, (hS.sel [0, 9, 10, 11, 12, 13, 14] (by decide)), (Own.nil Kd.u8 5 Mem.no), (Own.nil (Kd.int .i64) 3 Mem.no), (Own.nil (Kd.int .i64) 3 Mem.no), (Own.nil Kd.u8 5 Mem.no), (Own.nil Kd.u8 5 Mem.no), (Own.nil Kd.u8 5 Mem.no)⟩

set_option maxHeartbeats 4000000 in
set_option maxRecDepth 20000 in
theorem fram_Open.calls (K : Nat) (x0 : List UInt8) (p0_0 : Value) (r : api_Msg × Bool) (w0 w : World) (Z A : Mem) (hA : A.le Z) (hS : Sep w0 w [] Z) (hp0_0 : Rd Kd.u8 A p0_0 x0)
    (H : fram_Open.f K x0 = some r) :
    Calls Try.prog 27 [p0_0].toArray w (Ret fun v w' => ∃ (u0 : Value) (u1 : Value) (u2 : Value) (u3 : Value) (u4 : Value) (u5 : Value) (N : Mem) (M0 : Mem) (M1 : Mem) (M2 : Mem) (M3 : Mem) (M4 : Mem) (M5 : Mem), v = .tuple [.agg [iV r.1.Kind, iV r.1.From, iV r.1.To, iV r.1.View, iV r.1.Inst, iV r.1.Len, .bool r.1.Has, iV r.1.Members, iV r.1.Source, iV r.1.At, iV r.1.Total, u0, iV r.1.Hop, iV r.1.Seq, u1, u2, iV r.1.Index, iV r.1.Entry.Sess, iV r.1.Entry.Seq, iV r.1.Entry.Cmd.Kind, iV r.1.Entry.Cmd.Who, u3, u4, u5].toArray, .bool r.2].toArray ∧ Sep w0 w' [N, M0, M1, M2, M3, M4, M5] Z ∧ Own Kd.u8 5 M0 Mem.no u0 r.1.Data ∧ Own (Kd.int .i64) 3 M1 Mem.no u1 r.1.Have ∧ Own (Kd.int .i64) 3 M2 Mem.no u2 r.1.Need ∧ Own Kd.u8 5 M3 Mem.no u3 r.1.Entry.Cmd.Key ∧ Own Kd.u8 5 M4 Mem.no u4 r.1.Entry.Cmd.Val ∧ Own Kd.u8 5 M5 Mem.no u5 r.1.Entry.Cmd.Old) := by
 unfold fram_Open.f at H
 refine f_enter _ Try.func27 rfl Try.ntmps27 rfl fun a h=>?_
 replace h : Fr 26 a [(0, p0_0)] := h
 replace hS := hS.start
 refine qr <| v_alloc h rfl ti32 hS fun w_1 g_1 hS' a h => ?_
 replace hS : Sep w0 w_1 [_, bx g_1 32 Q0] Z := hS'
 refine sg h rfl fun a h=>nx <| qr <| mv h rfl fun a h=>?_
 obtain ⟨t_1, et_1, H⟩ := bs H
 refine s_call h rfl Try.call43 rfl (fram_Sound.calls K x0 _ t_1 w0 _ _ A (hA.trans (hS.le_zed [])) (hS.enter [] (by decide)) hp0_0 et_1) ?_
 rintro _ w_2 ⟨v_1, N_1, rfl, hS', hr_1⟩
 intro a h
 obtain ⟨N_2, hS'', le_1, ln_1⟩ := hS.call [] (by decide) rfl (l' := []) (ow := []) rfl hS'
 replace hS : Sep w0 w_2 [N_2, _] Z := hS''
 have hr_2 : Rd Kd.u8 (A.un N_2) v_1 t_1.1 := hr_1.mono (Mem.un_left ln_1)
 refine mv h rfl fun a h=>s_extract h rfl rfl rfl fun a h=>s_extract h rfl rfl rfl fun a h=>sg h rfl fun a h=>sg h rfl fun a h=>nx <| qr <| mv h rfl fun a h=>?_
 obtain ⟨t_2, et_2, H⟩ := bs H
 refine s_call h rfl Try.call44 rfl (mesg_Decode.calls K t_1.1 _ t_2 w0 _ _ _ mr (hS.enter [] (by decide)) (hr_2.mono (Mem.un_le (hA.trans (hS.le_zed [])) (mr.trans (hS.new_zed [])))) et_2) ?_
 rintro _ w_3 ⟨v_2, v_3, v_4, v_5, v_6, v_7, N_3, M_1, M_2, M_3, M_4, M_5, M_6, rfl, hS', hr_3, hr_4, hr_5, hr_6, hr_7, hr_8⟩
 intro a h
 obtain ⟨N_4, hS'', le_2, ln_2⟩ := hS.call [] (by decide) rfl (l' := []) (ow := [_, _, _, _, _, _]) rfl hS'
 replace hS : Sep w0 w_3 [N_4, _, _, _, _, _, _, _] Z := hS''
 refine mv h rfl fun a h=>s_extract h rfl rfl rfl fun a h=>s_extract h rfl rfl rfl fun a h=>v_alloc h rfl ti32 hS fun w_4 g_2 hS' a h => ?_
 replace hS : Sep w0 w_4 [_, _, _, _, _, _, _, _, bx g_2 32 Q0] Z := hS'
 refine sto 8 h rfl rfl hS rfl ti32 rfl rfl rfl (oa 11 rfl (oc hr_3.one (oa 2 rfl (oc hr_4.one (oc hr_5.one (oa 5 rfl (oc hr_6.one (oc hr_7.one (oc hr_8.one on0))))))))) fun w_5 hS' => ?_
 replace hS : Sep w0 w_5 [_, _, _, _, _, _, _, _, bx g_2 32 (E32 t_2.1 v_2 v_3 v_4 v_5 v_6 v_7)] Z := hS'
 refine sg h rfl fun a h=>nx <| c_seq fun KJ_1 hKJ_1 => c_seq fun KJ_2 hKJ_2 => ?_
 have hJ_j_1 : ∀ (x_1 : Bool), fram_Open.J1 K t_2 x_1 = some r → ∀ (a : Act) (w_6 : World), (∃ (N_5 : Mem), Fr 26 a [(2, .pointer (some ⟨g_1, 0, none⟩)), (3, .bool false), (6, .pointer (some ⟨g_2, 0, none⟩)), (23, .bool x_1)] ∧ Sep w0 w_6 [N_5, bx g_1 32 Q0, M_1, M_2, M_3, M_4, M_5, M_6, bx g_2 32 (E32 t_2.1 v_2 v_3 v_4 v_5 v_6 v_7)] Z ∧ N_4.le N_5) → KJ_2 a w_6 := by
  clear H h hS a
  rintro x_1 H a w_6 ⟨N_5, h, hS, le_3⟩
  unfold fram_Open.J1 at H
  refine hKJ_2 _ _ ?_
  obtain ⟨hc_1, H⟩ | ⟨hc_1, H⟩ := ii H
  ·refine c_cond_t h rfl hc_1 <| qr <| s_build h rfl ti32 pl32 rfl .nil (cs := Q0) (by kernel_rfl) fun a h=>?_
   refine sto 1 h rfl rfl hS rfl ti32 rfl rfl rfl (oz rfl) fun w_7 hS' => ?_
   replace hS : Sep w0 w_7 [_, _, _, _, _, _, _, _, _] Z := hS'
   refine sg h rfl fun a h=>wpList_nil ?_
   replace h : Fr 26 a [(2, _), (3, _), (6, _)] := h.keep [2, 3, 6]
   refine x_then_n <| wp_ret (x_then_r ?_)
   have hS' := hS.room
   replace hS : Sep w0 w_7 [_, _, _, _, _, _, _, _, _, Mem.no] Z := hS'
   have hS' := hS.room
   replace hS : Sep w0 w_7 [_, _, _, _, _, _, _, _, _, _, Mem.no] Z := hS'
   have hS' := hS.room
   replace hS : Sep w0 w_7 [_, _, _, _, _, _, _, _, _, _, _, Mem.no] Z := hS'
   have hS' := hS.room
   replace hS : Sep w0 w_7 [_, _, _, _, _, _, _, _, _, _, _, _, Mem.no] Z := hS'
   have hS' := hS.room
   replace hS : Sep w0 w_7 [_, _, _, _, _, _, _, _, _, _, _, _, _, Mem.no] Z := hS'
   have hS' := hS.room
   replace hS : Sep w0 w_7 [_, _, _, _, _, _, _, _, _, _, _, _, _, _, Mem.no] Z := hS'
   obtain rfl := Option.some.inj H
   exact f_ret h (rs := [.cell 2 32, .tmp 3]) rfl (.cell rfl (hS.load_agg (p := 1) (us := Q0) rfl U32 rfl ti32 rfl rfl) (.tmp rfl .nil)) ⟨_, rfl, nS, nS, nS, nS, nS, nS, N_5, Mem.no, Mem.no, Mem.no, Mem.no, Mem.no, Mem.no, rfl, (hS.sel [0, 9, 10, 11, 12, 13, 14] (by decide)), (Own.nil Kd.u8 5 Mem.no), (Own.nil (Kd.int .i64) 3 Mem.no), (Own.nil (Kd.int .i64) 3 Mem.no), (Own.nil Kd.u8 5 Mem.no), (Own.nil Kd.u8 5 Mem.no), (Own.nil Kd.u8 5 Mem.no)⟩
  ·refine c_cond_f h rfl (ef hc_1) <| wp_skip <| x_then_n (hKJ_1 _ _ ?_)
   refine qr <| s_load h rfl rfl (hS.load_agg (p := 8) (us := (E32 t_2.1 v_2 v_3 v_4 v_5 v_6 v_7)) rfl U32 rfl ti32 rfl rfl) fun a h=>?_
   refine sto 1 h rfl rfl hS rfl ti32 rfl rfl rfl (oa 11 rfl (oc hr_3.one (oa 2 rfl (oc hr_4.one (oc hr_5.one (oa 5 rfl (oc hr_6.one (oc hr_7.one (oc hr_8.one on0))))))))) fun w_8 hS' => ?_
   replace hS : Sep w0 w_8 [_, bx g_1 32 (E32 t_2.1 v_2 v_3 v_4 v_5 v_6 v_7), _, _, _, _, _, _, _] Z := hS'
   refine sg h rfl fun a h=>wpList_nil ?_
   replace h : Fr 26 a [(2, _), (3, .bool true)] := h.keep [2, 3]
   refine x_then_n <| wp_ret ?_
   obtain rfl := Option.some.inj H
   exact f_ret h (rs := [.cell 2 32, .tmp 3]) rfl (.cell rfl (hS.load_agg (p := 1) (us := (E32 t_2.1 v_2 v_3 v_4 v_5 v_6 v_7)) rfl U32 rfl ti32 rfl rfl) (.tmp rfl .nil)) ⟨_, rfl, v_2, v_3, v_4, v_5, v_6, v_7, N_5, M_1, M_2, M_3, M_4, M_5, M_6, rfl, (hS.sel [0, 2, 3, 4, 5, 6, 7] (by decide)), hr_3, hr_4, hr_5, hr_6, hr_7, hr_8⟩
 clear hKJ_2
 refine wp_region_lit <| mv h rfl fun a h=>s_not h rfl rfl fun a h=>mv h rfl fun a h=>?_
 obtain ⟨hc_2, H⟩ | ⟨hc_2, H⟩ := ii H
 ·refine s_on h rfl rfl (nf hc_2) <| mv h rfl fun a h=>s_on h rfl rfl (nf hc_2) <| s_not h rfl rfl fun a h=>pf h rfl (nf hc_2) fun a h=>wpList_nil ?_
  replace h : Fr 26 a [(2, .pointer (some ⟨g_1, 0, none⟩)), (3, .bool false), (6, .pointer (some ⟨g_2, 0, none⟩)), (23, .bool (!t_2.2))] := h.keep [2, 3, 6, 23]
  exact x_then_n (hJ_j_1 (!t_2.2) H _ _ ⟨N_4, (h.keep [2, 3, 6, 23]), (hS.sel [0, 1, 2, 3, 4, 5, 6, 7, 8] (by decide)), mr⟩)
 ·refine of h rfl rfl (nt (ef hc_2)) fun a h=>of h rfl rfl (nt (ef hc_2)) fun a h=>pt h rfl (nt (ef hc_2)) fun a h=>wpList_nil ?_
  replace h : Fr 26 a [(2, .pointer (some ⟨g_1, 0, none⟩)), (3, .bool false), (6, .pointer (some ⟨g_2, 0, none⟩)), (23, .bool true)] := h.keep [2, 3, 6, 23]
  exact x_then_n (hJ_j_1 true H _ _ ⟨N_4, (h.keep [2, 3, 6, 23]), (hS.sel [0, 1, 2, 3, 4, 5, 6, 7, 8] (by decide)), mr⟩)

set_option maxHeartbeats 4000000 in
set_option maxRecDepth 20000 in
theorem nets_Net_Take.calls (K : Nat) (g0 : Nat) (x0_n : Int) (x0_mask : Int) (x0_l : List nets_frame) (p0_0 : Value) (M0_0 : Mem) (x1 : Int) (r : api_Msg × Bool × Int × Int × (List nets_frame)) (w0 w : World) (Z A : Mem) (hA : A.le Z) (hS : Sep w0 w [bx g0 58 [iV x0_n, iV x0_mask, p0_0], M0_0] Z) (hp0_0 : Own k_nets_frame 60 M0_0 A p0_0 x0_l)
    (H : nets_Net_Take.f K x0_n x0_mask x0_l x1 = some r) :
    Calls Try.prog 11 [.pointer (some ⟨g0, 0, none⟩), iV x1].toArray w (Ret fun v w' => ∃ (u0 : Value) (u1 : Value) (u2 : Value) (u3 : Value) (u4 : Value) (u5 : Value) (u6 : Value) (N : Mem) (M0 : Mem) (M1 : Mem) (M2 : Mem) (M3 : Mem) (M4 : Mem) (M5 : Mem) (M100 : Mem), v = .tuple [.agg [iV r.1.Kind, iV r.1.From, iV r.1.To, iV r.1.View, iV r.1.Inst, iV r.1.Len, .bool r.1.Has, iV r.1.Members, iV r.1.Source, iV r.1.At, iV r.1.Total, u0, iV r.1.Hop, iV r.1.Seq, u1, u2, iV r.1.Index, iV r.1.Entry.Sess, iV r.1.Entry.Seq, iV r.1.Entry.Cmd.Kind, iV r.1.Entry.Cmd.Who, u3, u4, u5].toArray, .bool r.2.1].toArray ∧ Sep w0 w' [N, bx g0 58 [iV r.2.2.1, iV r.2.2.2.1, u6], M100, M0, M1, M2, M3, M4, M5] Z ∧ Own Kd.u8 5 M0 Mem.no u0 r.1.Data ∧ Own (Kd.int .i64) 3 M1 Mem.no u1 r.1.Have ∧ Own (Kd.int .i64) 3 M2 Mem.no u2 r.1.Need ∧ Own Kd.u8 5 M3 Mem.no u3 r.1.Entry.Cmd.Key ∧ Own Kd.u8 5 M4 Mem.no u4 r.1.Entry.Cmd.Val ∧ Own Kd.u8 5 M5 Mem.no u5 r.1.Entry.Cmd.Old ∧ Own k_nets_frame 60 M100 (A.un N) u6 r.2.2.2.2) := by
 unfold nets_Net_Take.f at H
 refine f_enter _ Try.func11 rfl Try.ntmps11 rfl fun a h=>?_
 replace h : Fr 32 a [(0, .pointer (some ⟨g0, 0, none⟩)), (1, iV x1)] := h
 replace hS := hS.start
 refine qr <| v_alloc h rfl ti32 hS fun w_1 g_1 hS' a h => ?_
 replace hS : Sep w0 w_1 [_, _, _, bx g_1 32 Q0] Z := hS'
 refine sg h rfl fun a h=>nx <| qr <| mv h rfl fun a h=>mv h rfl fun a h=>?_
 obtain ⟨t_1, et_1, H⟩ := bs H
 refine s_call h rfl Try.call18 rfl (nets_Net_At.calls _ x0_n x0_mask x0_l _ x1 t_1 w0 _ _ _ mr (hS.enter [0] (by decide)) (hp0_0.rd (hS.own_zed [0] 1 (by decide)) (hA.trans (hS.le_zed [0]))) et_1) ?_
 rintro _ w_2 ⟨v_1, N_1, M_1, rfl, hS', hr_1⟩
 intro a h
 obtain ⟨N_2, hS'', le_1, ln_1⟩ := hS.call [0] (by decide) rfl (l' := [_]) (ow := [_]) rfl hS'
 replace hS : Sep w0 w_2 [N_2, _, _, _, _] Z := hS''
 refine mv h rfl fun a h=>s_extract h rfl rfl rfl fun a h=>s_extract h rfl rfl rfl fun a h=>v_alloc h rfl ti44 hS fun w_3 g_2 hS' a h => ?_
 replace hS : Sep w0 w_3 [_, _, _, _, _, bx g_2 44 [iV 0, iV 0, nS]] Z := hS'
 refine sto 5 h rfl rfl hS rfl ti44 rfl rfl rfl (oa 2 rfl (oc hr_1.one on0)) fun w_4 hS' => ?_
 replace hS : Sep w0 w_4 [_, _, _, _, _, bx g_2 44 [iV t_1.1.From, iV t_1.1.To, v_1]] Z := hS'
 refine sg h rfl fun a h=>nx <| c_seq fun KJ_1 hKJ_1 => qr <| mv h rfl fun a h=>s_not h rfl rfl fun a h=>wpList_nil <| x_then_n ?_
 obtain ⟨hc_1, H⟩ | ⟨hc_1, H⟩ := ii H
 ·refine c_cond_f h rfl (nf hc_1) <| wp_skip <| x_then_n (hKJ_1 _ _ ?_)
  refine qr <| mv h rfl fun a h=>mv h rfl fun a h=>?_
  obtain ⟨t_2, et_2, H⟩ := bs H
  refine s_call h rfl Try.call24 rfl (nets_Net_Drop.calls _ x0_n x0_mask x0_l _ _ x1 t_2 w0 _ _ A (hA.trans (hS.le_zed [0, 1])) (hS.enter [0, 1] (by decide)) (hp0_0.mono mr) et_2) ?_
  rintro _ w_5 ⟨v_2, N_3, M_2, rfl, hS', hr_2⟩
  intro a h
  obtain ⟨N_4, hS'', le_2, ln_2⟩ := hS.call [0, 1] (by decide) rfl (l' := [_, _]) (ow := []) rfl hS'
  replace hS : Sep w0 w_5 [N_4, _, _, _, _, _] Z := hS''
  have hr_3 : Own k_nets_frame 60 M_2 (A.un N_4) v_2 t_2.2.2.2 := hr_2.mono (Mem.un_left ln_2)
  refine wpList_nil ?_
  replace h : Fr 32 a [(0, _), (4, .pointer (some ⟨g_1, 0, none⟩)), (5, .bool false), (6, .pointer (some ⟨g_2, 0, none⟩))] := h.keep [0, 4, 5, 6]
  refine x_then_n <| c_seq fun KJ_2 hKJ_2 => qr <| mv h rfl fun a h=>s_fieldAddr h rfl U44 rfl ti3 rfl rfl fun a h=>s_load h rfl rfl (hS.load_one (p := 5) rfl U3 rfl rfl) fun a h=>s_fieldAddr h rfl U44 rfl ti3 rfl rfl fun a h=>s_load h rfl rfl (hS.load_one (p := 5) rfl U3 rfl rfl) fun a h=>?_
  obtain ⟨t_3, et_3, H⟩ := bs H
  refine s_call h rfl Try.call20 rfl (nets_Net_Apart.calls _ t_2.2.1 t_2.2.2.1 t_2.2.2.2 _ t_1.1.From t_1.1.To t_3 w0 _ _ _ mr (hS.enter [0] (by decide)) (hr_3.rd (hS.own_zed [0] 1 (by decide)) (Mem.un_le (hA.trans (hS.le_zed [0])) (mr.trans (hS.new_zed [0])))) et_3) ?_
  rintro _ w_6 ⟨N_5, rfl, hS'⟩
  intro a h
  obtain ⟨N_6, hS'', le_3, ln_3⟩ := hS.call [0] (by decide) rfl (l' := [_]) (ow := []) rfl hS'
  replace hS : Sep w0 w_6 [N_6, _, _, _, _, _] Z := hS''
  refine wpList_nil <| x_then_n ?_
  obtain ⟨hc_2, H⟩ | ⟨hc_2, H⟩ := ii H
  ·refine c_cond_t h rfl hc_2 <| qr <| s_build h rfl ti32 pl32 rfl .nil (cs := Q0) (by kernel_rfl) fun a h=>?_
   refine sto 3 h rfl rfl hS rfl ti32 rfl rfl rfl (oz rfl) fun w_7 hS' => ?_
   replace hS : Sep w0 w_7 [_, _, _, _, _, _] Z := hS'
   refine sg h rfl fun a h=>nx <| wp_ret (x_then_r ?_)
   have hS' := hS.room
   replace hS : Sep w0 w_7 [_, _, _, _, _, _, Mem.no] Z := hS'
   have hS' := hS.room
   replace hS : Sep w0 w_7 [_, _, _, _, _, _, _, Mem.no] Z := hS'
   have hS' := hS.room
   replace hS : Sep w0 w_7 [_, _, _, _, _, _, _, _, Mem.no] Z := hS'
   have hS' := hS.room
   replace hS : Sep w0 w_7 [_, _, _, _, _, _, _, _, _, Mem.no] Z := hS'
   have hS' := hS.room
   replace hS : Sep w0 w_7 [_, _, _, _, _, _, _, _, _, _, Mem.no] Z := hS'
   have hS' := hS.room
   replace hS : Sep w0 w_7 [_, _, _, _, _, _, _, _, _, _, _, Mem.no] Z := hS'
   obtain rfl := Option.some.inj H
   exact f_ret h (rs := [.cell 4 32, .tmp 5]) rfl (.cell rfl (hS.load_agg (p := 3) (us := Q0) rfl U32 rfl ti32 rfl rfl) (.tmp rfl .nil)) ⟨_, rfl, nS, nS, nS, nS, nS, nS, v_2, N_6, Mem.no, Mem.no, Mem.no, Mem.no, Mem.no, Mem.no, M_2, rfl, (hS.sel [0, 1, 2, 6, 7, 8, 9, 10, 11] (by decide)), (Own.nil Kd.u8 5 Mem.no), (Own.nil (Kd.int .i64) 3 Mem.no), (Own.nil (Kd.int .i64) 3 Mem.no), (Own.nil Kd.u8 5 Mem.no), (Own.nil Kd.u8 5 Mem.no), (Own.nil Kd.u8 5 Mem.no), (hr_3.mono (Mem.un_left le_3))⟩
  ·refine c_cond_f h rfl (ef hc_2) <| wp_skip <| x_then_n (hKJ_2 _ _ ?_)
   refine qr <| s_fieldAddr h rfl U44 rfl ti26 rfl rfl fun a h=>s_load h rfl rfl (hS.load_one (p := 5) rfl U26 rfl rfl) fun a h=>?_
   obtain ⟨t_4, et_4, H⟩ := bs H
   refine s_call h rfl Try.call27 rfl (fram_Open.calls K t_1.1.Bytes _ t_4 w0 _ _ _ mr (hS.enter [] (by decide)) (hr_1.rd (hS.own_zed [] 3 (by decide)) (Mem.no_le _)) et_4) ?_
   rintro _ w_8 ⟨v_3, v_4, v_5, v_6, v_7, v_8, N_7, M_3, M_4, M_5, M_6, M_7, M_8, rfl, hS', hr_4, hr_5, hr_6, hr_7, hr_8, hr_9⟩
   intro a h
   obtain ⟨N_8, hS'', le_4, ln_4⟩ := hS.call [] (by decide) rfl (l' := []) (ow := [_, _, _, _, _, _]) rfl hS'
   replace hS : Sep w0 w_8 [N_8, _, _, _, _, _, _, _, _, _, _, _] Z := hS''
   refine s_extract h rfl rfl rfl fun a h=>s_extract h rfl rfl rfl fun a h=>?_
   refine sto 3 h rfl rfl hS rfl ti32 rfl rfl rfl (oa 11 rfl (oc hr_4.one (oa 2 rfl (oc hr_5.one (oc hr_6.one (oa 5 rfl (oc hr_7.one (oc hr_8.one (oc hr_9.one on0))))))))) fun w_9 hS' => ?_
   replace hS : Sep w0 w_9 [_, _, _, bx g_1 32 (E32 t_4.1 v_3 v_4 v_5 v_6 v_7 v_8), _, _, _, _, _, _, _, _] Z := hS'
   refine sg h rfl fun a h=>nx <| wp_ret ?_
   obtain rfl := Option.some.inj H
   exact f_ret h (rs := [.cell 4 32, .tmp 5]) rfl (.cell rfl (hS.load_agg (p := 3) (us := (E32 t_4.1 v_3 v_4 v_5 v_6 v_7 v_8)) rfl U32 rfl ti32 rfl rfl) (.tmp rfl .nil)) ⟨_, rfl, v_3, v_4, v_5, v_6, v_7, v_8, v_2, N_8, M_3, M_4, M_5, M_6, M_7, M_8, M_2, rfl, (hS.sel [0, 1, 2, 6, 7, 8, 9, 10, 11] (by decide)), hr_4, hr_5, hr_6, hr_7, hr_8, hr_9, (hr_3.mono (Mem.un_left (le_3.trans le_4)))⟩
 ·refine c_cond_t h rfl (nt (ef hc_1)) <| qr <| s_build h rfl ti32 pl32 rfl .nil (cs := Q0) (by kernel_rfl) fun a h=>?_
  refine sto 3 h rfl rfl hS rfl ti32 rfl rfl rfl (oz rfl) fun w_10 hS' => ?_
  replace hS : Sep w0 w_10 [_, _, _, _, _, _] Z := hS'
  refine sg h rfl fun a h=>wpList_nil ?_
  replace h : Fr 32 a [(0, _), (1, _), (4, .pointer (some ⟨g_1, 0, none⟩)), (5, .bool false), (6, .pointer (some ⟨g_2, 0, none⟩))] := h.keep [0, 1, 4, 5, 6]
  refine x_then_n <| wp_ret (x_then_r ?_)
  have hS' := hS.room
  replace hS : Sep w0 w_10 [_, _, _, _, _, _, Mem.no] Z := hS'
  have hS' := hS.room
  replace hS : Sep w0 w_10 [_, _, _, _, _, _, _, Mem.no] Z := hS'
  have hS' := hS.room
  replace hS : Sep w0 w_10 [_, _, _, _, _, _, _, _, Mem.no] Z := hS'
  have hS' := hS.room
  replace hS : Sep w0 w_10 [_, _, _, _, _, _, _, _, _, Mem.no] Z := hS'
  have hS' := hS.room
  replace hS : Sep w0 w_10 [_, _, _, _, _, _, _, _, _, _, Mem.no] Z := hS'
  have hS' := hS.room
  replace hS : Sep w0 w_10 [_, _, _, _, _, _, _, _, _, _, _, Mem.no] Z := hS'
  obtain rfl := Option.some.inj H
  exact f_ret h (rs := [.cell 4 32, .tmp 5]) rfl (.cell rfl (hS.load_agg (p := 3) (us := Q0) rfl U32 rfl ti32 rfl rfl) (.tmp rfl .nil)) ⟨_, rfl, nS, nS, nS, nS, nS, nS, p0_0, N_2, Mem.no, Mem.no, Mem.no, Mem.no, Mem.no, Mem.no, M0_0, rfl, (hS.sel [0, 1, 2, 6, 7, 8, 9, 10, 11] (by decide)), (Own.nil Kd.u8 5 Mem.no), (Own.nil (Kd.int .i64) 3 Mem.no), (Own.nil (Kd.int .i64) 3 Mem.no), (Own.nil Kd.u8 5 Mem.no), (Own.nil Kd.u8 5 Mem.no), (Own.nil Kd.u8 5 Mem.no), (hp0_0.mono (Mem.le_un _ _))⟩

set_option maxHeartbeats 4000000 in
set_option maxRecDepth 20000 in
theorem nets_Net_Count.calls (g0 : Nat) (x0_n : Int) (x0_mask : Int) (x0_l : List nets_frame) (p0_0 : Value) (r : Int) (w0 w : World) (Z A : Mem) (hA : A.le Z) (hS : Sep w0 w [bx g0 58 [iV x0_n, iV x0_mask, p0_0]] Z) (hp0_0 : Rd k_nets_frame A p0_0 x0_l)
    (H : nets_Net_Count.f x0_n x0_mask x0_l = some r) :
    Calls Try.prog 12 [.pointer (some ⟨g0, 0, none⟩)].toArray w (Ret fun v w' => ∃ (N : Mem), v = iV r ∧ Sep w0 w' [N, bx g0 58 [iV x0_n, iV x0_mask, p0_0]] Z) := by
 unfold nets_Net_Count.f at H
 refine f_enter _ Try.func12 rfl Try.ntmps12 rfl fun a h=>?_
 replace h : Fr 8 a [(0, .pointer (some ⟨g0, 0, none⟩))] := h
 replace hS := hS.start
 refine qr <| sg h rfl fun a h=>nx <| qr <| mv h rfl fun a h=>s_nilCheck h rfl rfl fun a h=>s_fieldAddr h rfl U58 rfl ti56 rfl rfl fun a h=>s_load h rfl rfl (hS.load_one (p := 1) rfl U56 rfl rfl) fun a h=>s_len h rfl U56 rfl hp0_0 fun a h=>?_
 refine sg h rfl fun a h=>nx <| wp_ret ?_
 obtain rfl := Option.some.inj H
 exact r1 h 2 rfl rfl ⟨_, rfl, Mem.no, rfl, (hS.sel [0, 1] (by decide))⟩

set_option maxHeartbeats 4000000 in
set_option maxRecDepth 20000 in
theorem nets_Net_Twice.calls (g0 : Nat) (x0_n : Int) (x0_mask : Int) (x0_l : List nets_frame) (p0_0 : Value) (M0_0 : Mem) (x1 : Int) (r : Bool × Int × Int × (List nets_frame)) (w0 w : World) (Z A : Mem) (hA : A.le Z) (hS : Sep w0 w [bx g0 58 [iV x0_n, iV x0_mask, p0_0], M0_0] Z) (hp0_0 : Own k_nets_frame 60 M0_0 A p0_0 x0_l)
    (H : nets_Net_Twice.f x0_n x0_mask x0_l x1 = some r) :
    Calls Try.prog 15 [.pointer (some ⟨g0, 0, none⟩), iV x1].toArray w (Ret fun v w' => ∃ (u0 : Value) (N : Mem) (M100 : Mem), v = .bool r.1 ∧ Sep w0 w' [N, bx g0 58 [iV r.2.1, iV r.2.2.1, u0], M100] Z ∧ Own k_nets_frame 60 M100 (A.un N) u0 r.2.2.2) := by
 unfold nets_Net_Twice.f at H
 refine f_enter _ Try.func15 rfl Try.ntmps15 rfl fun a h=>?_
 replace h : Fr 39 a [(0, .pointer (some ⟨g0, 0, none⟩)), (1, iV x1)] := h
 replace hS := hS.start
 refine qr <| sg h rfl fun a h=>nx <| qr <| mv h rfl fun a h=>mv h rfl fun a h=>?_
 obtain ⟨t_1, et_1, H⟩ := bs H
 refine s_call h rfl Try.call18 rfl (nets_Net_At.calls _ x0_n x0_mask x0_l _ x1 t_1 w0 _ _ _ mr (hS.enter [0] (by decide)) (hp0_0.rd (hS.own_zed [0] 1 (by decide)) (hA.trans (hS.le_zed [0]))) et_1) ?_
 rintro _ w_1 ⟨v_1, N_1, M_1, rfl, hS', hr_1⟩
 intro a h
 obtain ⟨N_2, hS'', le_1, ln_1⟩ := hS.call [0] (by decide) rfl (l' := [_]) (ow := [_]) rfl hS'
 replace hS : Sep w0 w_1 [N_2, _, _, _] Z := hS''
 refine mv h rfl fun a h=>s_extract h rfl rfl rfl fun a h=>s_extract h rfl rfl rfl fun a h=>v_alloc h rfl ti44 hS fun w_2 g_1 hS' a h => ?_
 replace hS : Sep w0 w_2 [_, _, _, _, bx g_1 44 [iV 0, iV 0, nS]] Z := hS'
 refine sto 4 h rfl rfl hS rfl ti44 rfl rfl rfl (oa 2 rfl (oc hr_1.one on0)) fun w_3 hS' => ?_
 replace hS : Sep w0 w_3 [_, _, _, _, bx g_1 44 [iV t_1.1.From, iV t_1.1.To, v_1]] Z := hS'
 refine sg h rfl fun a h=>nx <| c_seq fun KJ_1 hKJ_1 => c_seq fun KJ_2 hKJ_2 => ?_
 have hJ_j_1 : ∀ (x_1 : Bool), nets_Net_Twice.J1 x0_n x0_mask x0_l x1 t_1 x_1 = some r → ∀ (a : Act) (w_4 : World), (∃ (N_3 : Mem), Fr 39 a [(0, .pointer (some ⟨g0, 0, none⟩)), (1, iV x1), (4, .bool false), (5, .pointer (some ⟨g_1, 0, none⟩)), (19, .bool x_1)] ∧ Sep w0 w_4 [N_3, bx g0 58 [iV x0_n, iV x0_mask, p0_0], M0_0, M_1, bx g_1 44 [iV t_1.1.From, iV t_1.1.To, v_1]] Z ∧ N_2.le N_3) → KJ_2 a w_4 := by
  clear H h hS a
  rintro x_1 H a w_4 ⟨N_3, h, hS, le_2⟩
  unfold nets_Net_Twice.J1 at H
  refine hKJ_2 _ _ ?_
  obtain ⟨hc_1, H⟩ | ⟨hc_1, H⟩ := ii H
  ·refine c_cond_t h rfl hc_1 <| qr <| sg h rfl fun a h=>nx <| wp_ret (x_then_r ?_)
   obtain rfl := Option.some.inj H
   exact r1 h 4 rfl rfl ⟨_, rfl, p0_0, N_3, M0_0, rfl, (hS.sel [0, 1, 2] (by decide)), (hp0_0.mono (Mem.le_un _ _))⟩
  ·refine c_cond_f h rfl (ef hc_1) <| wp_skip <| x_then_n (hKJ_1 _ _ ?_)
   refine c_seq fun KJ_3 hKJ_3 => h_begin (S := fun w => Sep w0 w [N_3, Mem.no, Mem.no, Mem.no, bx g_1 44 [iV t_1.1.From, iV t_1.1.To, v_1]] Z) 20 (by kernel_rfl) rfl (bA 20 0) (by kernel_rfl) hS fun w_5 hS => ?_
   refine t_take 0 (bA 20 1) rfl rfl rfl rfl h (hS.sub (.cons mr (.zz (.zz (.zz .ii))))) (v := .pointer (some ⟨g0, 0, none⟩)) (fun w hS => r_move h rfl) fun a h=>t_take 1 (bA 20 3) rfl rfl rfl rfl h (hS.sub (.cons mr (.zz (.zz (.zz .ii))))) (v := .pointer (some ⟨g0, 0, none⟩)) (fun w hS => r_move h rfl) fun a h=>t_take 2 (bA 20 7) rfl rfl rfl rfl h (hS.sub (.cons mr (.zz (.zz (.zz .ii))))) (v := .pointer (some ⟨g0, 0, none⟩)) (fun w hS => r_nilCheck h rfl) fun a h=>t_take 3 (bA 20 15) rfl rfl rfl rfl h (hS.sub (.cons mr (.zz (.zz (.zz .ii))))) (v := .pointer (some ⟨g0, 2, none⟩)) (fun w hS => r_fieldAddr h U58 rfl ti56 rfl rfl rfl) fun a h=>t_take 5 (bA 20 47) rfl rfl rfl rfl h (hS.sub (.cons mr (.zz (.zz (.zz .ii))))) (v := .agg ([iV t_1.1.From, iV t_1.1.To, v_1] : List Value).toArray) (fun w hS => r_load h rfl (hS.load_agg (p := 4) (us := [iV t_1.1.From, iV t_1.1.To, v_1]) rfl U44 rfl ti44 rfl rfl)) fun a h=>t_take 6 (bA 20 111) rfl rfl rfl rfl h (hS.sub (.cons mr (.zz (.zz (.zz .ii))))) (v := .pointer (some ⟨g0, 0, none⟩)) (fun w hS => r_move h rfl) fun a h=>?_
   refine t_take 7 (bA 20 239) rfl rfl rfl rfl h (hS.sub (.cons mr (.zz (.zz (.zz .ii))))) (v := .pointer (some ⟨g0, 0, none⟩)) (fun w hS => r_nilCheck h rfl) fun a h=>t_take 8 (bA 20 495) rfl rfl rfl rfl h (hS.sub (.cons mr (.zz (.zz (.zz .ii))))) (v := .pointer (some ⟨g0, 2, none⟩)) (fun w hS => r_fieldAddr h U58 rfl ti56 rfl rfl rfl) fun a h=>t_take 10 (bA 20 1519) rfl rfl rfl rfl h (hS.sub (.cons mr (.zz (.zz (.zz .ii))))) (v := iV x1) (fun w hS => r_move h rfl) fun a h=>?_
   obtain ⟨t_2, et_2, H⟩ := bs H
   obtain ⟨t_3, et_3, H⟩ := bs H
   refine h_events [4, 9] (by kernel_rfl) (by simp) ?_
   intro i hi; simp only [List.mem_cons, List.not_mem_nil, or_false] at hi; rcases hi with rfl | rfl
   ·refine ⟨_, (bA 20 1535), rfl, by kernel_rfl, ?_⟩
    refine s_load h rfl rfl (hS.load_one (p := 1) rfl U56 rfl rfl) fun a h=>wpList_nil <| x_then_n ⟨(hS.sub (.cons mr (.zz (.zz (.zz .ii))))), ?_⟩
    refine h_event 9 (bA 20 2047) rfl (by kernel_rfl) (by kernel_rfl) <| s_load h rfl rfl (hS.load_one (p := 1) rfl U56 rfl rfl) fun a h=>wpList_nil <| x_then_n ⟨(hS.sub (.cons mr (.zz (.zz (.zz .ii))))), ?_⟩
    refine t_takeE 11 (bA 20 4095) rfl rfl rfl rfl h (hS.sub (.cons mr (.zz (.zz (.zz .ii))))) (f := fun ad => .pointer (some ad)) (r_indexO h U56 ti60 rfl rfl rfl hp0_0 et_2) ?_
    rintro ad_1 ⟨cs_1, hk_1, hc_2⟩
    obtain ⟨v_2, rfl, hr_2⟩ := k_nets_frame.open' hk_1
    intro a h
    refine t_take 12 (bA 20 8191) rfl rfl rfl rfl h (hS.sub (.cons mr (.zz (.zz (.zz .ii))))) (v := .pointer (some (ad_1.add 3))) (fun w hS => r_fieldAddr h U60 rfl ti4 rfl rfl rfl) fun a h=>h_event 13 (bA 20 16383) rfl (by kernel_rfl) (by kernel_rfl) <| s_load h rfl rfl (el_one (o := 3) (fun j c h => Mem.cell_le (hS.own 2) (hc_2 j c h)) U4 rfl rfl) fun a h=>wpList_nil <| x_then_n ⟨(hS.sub (.cons mr (.zz (.zz (.zz .ii))))), ?_⟩
    refine t_take 14 (bA 20 32767) rfl rfl rfl rfl h (hS.sub (.cons mr (.zz (.zz (.zz .ii))))) (v := .agg ([iV t_1.1.From, iV t_1.1.To, v_1, .bool t_2.turned] : List Value).toArray) (fun w hS => r_build h ti60 pl60 rfl (.cons rfl (.cons rfl .nil)) (cs := [iV t_1.1.From, iV t_1.1.To, v_1, .bool t_2.turned]) (by kernel_rfl)) fun a h=>h_event 15 (bA 20 65535) rfl (by kernel_rfl) (by kernel_rfl) ?_
    obtain ⟨N_4, hS', le_3, lo_1⟩ := hS.freeze 2 rfl
    replace hS : Sep w0 w_5 [N_4, _, _, Mem.no, _] Z := hS'
    have hq_1 : Reps k_nets_frame N_4 ([(⟨t_1.1, t_2.turned⟩ : nets_frame)] : List nets_frame) _ := ((Reps.one (d := k_nets_frame) (x := (⟨t_1.1, t_2.turned⟩ : nets_frame)) (k_nets_frame.mk' (hr_1.rd lo_1 (Mem.no_le _)))).append (Reps.nil k_nets_frame _))
    refine s_buildSlice h rfl U56 ti60 rfl rfl rfl (.cons rfl .nil) rfl rfl rfl hS hq_1 rfl fun w_6 v_3 M_2 hS' ho_1 a h => ?_
    replace hS : Sep w0 w_6 [_, _, _, _, _, M_2] Z := hS'
    refine wpList_nil <| x_then_n ⟨(hS.sub (.cons le_3 (.zz (.zz (.zz (.rr .nn)))))), ?_⟩
    refine h_event 16 (bA 20 131071) rfl (by kernel_rfl) (by kernel_rfl) <| s_append (J := N_4) (I' := (A.un N_4)) (p := 2) 2932031007402 h rfl rfl rfl U56 ti60 rfl rfl rfl rfl hS rfl hp0_0 (ho_1.src (hS.own 5)) (Mem.le_un _ _) (mr.trans (hS.sndA hA)) et_3 fun w_7 v_4 M_3 hS' ho_2 a h => ?_
    replace hS : Sep w0 w_7 [_, _, M_3, _, _, _] Z := hS'
    refine wpList_nil <| x_then_n ⟨(hS.sub (.cons le_3 (.zz (.zz (.zz (.rr .nn)))))), ?_⟩
    refine t_take 17 (bA 20 262143) rfl rfl rfl rfl h (hS.sub (.cons le_3 (.zz (.zz (.zz (.rr .nn)))))) (v := .pointer (some ⟨g0, 0, none⟩)) (fun w hS => r_nilCheck h rfl) fun a h=>t_take 18 (bA 20 524287) rfl rfl rfl rfl h (hS.sub (.cons le_3 (.zz (.zz (.zz (.rr .nn)))))) (v := .pointer (some ⟨g0, 2, none⟩)) (fun w hS => r_fieldAddr h U58 rfl ti56 rfl rfl rfl) fun a h=>h_event 19 (bA 20 1048575) rfl (by kernel_rfl) (by kernel_rfl) ?_
    refine sto 1 h rfl rfl hS rfl ti56 ho_2.cellsA rfl rfl (oc ho_2.one on0) fun w_8 hS' => ?_
    replace hS : Sep w0 w_8 [_, bx g0 58 [_, _, v_4], _, _, _, _] Z := hS'
    refine wpList_nil <| x_then_n ⟨(hS.sub (.cons le_3 (.zz (.zz (.zz (.rr .nn)))))), ?_⟩
    refine h_done (by kernel_rfl) <| x_then_n (hKJ_3 _ _ ?_)
    refine qr <| sg h rfl fun a h=>wpList_nil ?_
    replace h : Fr 39 a [(4, .bool true)] := h.keep [4]
    refine x_then_n <| wp_ret ?_
    obtain rfl := Option.some.inj H
    exact r1 h 4 rfl rfl ⟨_, rfl, v_4, N_4, M_3, rfl, (hS.sel [0, 1, 2] (by decide)), (ho_2.mono (Mem.un_left mr))⟩
   ·refine ⟨_, (bA 20 2031), rfl, by kernel_rfl, ?_⟩
    refine s_load h rfl rfl (hS.load_one (p := 1) rfl U56 rfl rfl) fun a h=>wpList_nil <| x_then_n ⟨(hS.sub (.cons mr (.zz (.zz (.zz .ii))))), ?_⟩
    refine t_takeE 11 (bA 20 4079) rfl rfl rfl rfl h (hS.sub (.cons mr (.zz (.zz (.zz .ii))))) (f := fun ad => .pointer (some ad)) (r_indexO h U56 ti60 rfl rfl rfl hp0_0 et_2) ?_
    rintro ad_2 ⟨cs_2, hk_2, hc_3⟩
    obtain ⟨v_5, rfl, hr_3⟩ := k_nets_frame.open' hk_2
    intro a h
    refine t_take 12 (bA 20 8175) rfl rfl rfl rfl h (hS.sub (.cons mr (.zz (.zz (.zz .ii))))) (v := .pointer (some (ad_2.add 3))) (fun w hS => r_fieldAddr h U60 rfl ti4 rfl rfl rfl) fun a h=>h_events [4, 13] (by kernel_rfl) (by simp) ?_
    intro i hi; simp only [List.mem_cons, List.not_mem_nil, or_false] at hi; rcases hi with rfl | rfl
    ·refine ⟨_, (bA 20 8191), rfl, by kernel_rfl, ?_⟩
     refine s_load h rfl rfl (hS.load_one (p := 1) rfl U56 rfl rfl) fun a h=>wpList_nil <| x_then_n ⟨(hS.sub (.cons mr (.zz (.zz (.zz .ii))))), ?_⟩
     refine h_event 13 (bA 20 16383) rfl (by kernel_rfl) (by kernel_rfl) <| s_load h rfl rfl (el_one (o := 3) (fun j c h => Mem.cell_le (hS.own 2) (hc_3 j c h)) U4 rfl rfl) fun a h=>wpList_nil <| x_then_n ⟨(hS.sub (.cons mr (.zz (.zz (.zz .ii))))), ?_⟩
     refine t_take 14 (bA 20 32767) rfl rfl rfl rfl h (hS.sub (.cons mr (.zz (.zz (.zz .ii))))) (v := .agg ([iV t_1.1.From, iV t_1.1.To, v_1, .bool t_2.turned] : List Value).toArray) (fun w hS => r_build h ti60 pl60 rfl (.cons rfl (.cons rfl .nil)) (cs := [iV t_1.1.From, iV t_1.1.To, v_1, .bool t_2.turned]) (by kernel_rfl)) fun a h=>h_event 15 (bA 20 65535) rfl (by kernel_rfl) (by kernel_rfl) ?_
     obtain ⟨N_5, hS', le_4, lo_2⟩ := hS.freeze 2 rfl
     replace hS : Sep w0 w_5 [N_5, _, _, Mem.no, _] Z := hS'
     have hq_2 : Reps k_nets_frame N_5 ([(⟨t_1.1, t_2.turned⟩ : nets_frame)] : List nets_frame) _ := ((Reps.one (d := k_nets_frame) (x := (⟨t_1.1, t_2.turned⟩ : nets_frame)) (k_nets_frame.mk' (hr_1.rd lo_2 (Mem.no_le _)))).append (Reps.nil k_nets_frame _))
     refine s_buildSlice h rfl U56 ti60 rfl rfl rfl (.cons rfl .nil) rfl rfl rfl hS hq_2 rfl fun w_9 v_6 M_4 hS' ho_3 a h => ?_
     replace hS : Sep w0 w_9 [_, _, _, _, _, M_4] Z := hS'
     refine wpList_nil <| x_then_n ⟨(hS.sub (.cons le_4 (.zz (.zz (.zz (.rr .nn)))))), ?_⟩
     refine h_event 16 (bA 20 131071) rfl (by kernel_rfl) (by kernel_rfl) <| s_append (J := N_5) (I' := (A.un N_5)) (p := 2) 2932031007402 h rfl rfl rfl U56 ti60 rfl rfl rfl rfl hS rfl hp0_0 (ho_3.src (hS.own 5)) (Mem.le_un _ _) (mr.trans (hS.sndA hA)) et_3 fun w_10 v_7 M_5 hS' ho_4 a h => ?_
     replace hS : Sep w0 w_10 [_, _, M_5, _, _, _] Z := hS'
     refine wpList_nil <| x_then_n ⟨(hS.sub (.cons le_4 (.zz (.zz (.zz (.rr .nn)))))), ?_⟩
     refine t_take 17 (bA 20 262143) rfl rfl rfl rfl h (hS.sub (.cons le_4 (.zz (.zz (.zz (.rr .nn)))))) (v := .pointer (some ⟨g0, 0, none⟩)) (fun w hS => r_nilCheck h rfl) fun a h=>t_take 18 (bA 20 524287) rfl rfl rfl rfl h (hS.sub (.cons le_4 (.zz (.zz (.zz (.rr .nn)))))) (v := .pointer (some ⟨g0, 2, none⟩)) (fun w hS => r_fieldAddr h U58 rfl ti56 rfl rfl rfl) fun a h=>h_event 19 (bA 20 1048575) rfl (by kernel_rfl) (by kernel_rfl) ?_
     refine sto 1 h rfl rfl hS rfl ti56 ho_4.cellsA rfl rfl (oc ho_4.one on0) fun w_11 hS' => ?_
     replace hS : Sep w0 w_11 [_, bx g0 58 [_, _, v_7], _, _, _, _] Z := hS'
     refine wpList_nil <| x_then_n ⟨(hS.sub (.cons le_4 (.zz (.zz (.zz (.rr .nn)))))), ?_⟩
     refine h_done (by kernel_rfl) <| x_then_n (hKJ_3 _ _ ?_)
     refine qr <| sg h rfl fun a h=>wpList_nil ?_
     replace h : Fr 39 a [(4, .bool true)] := h.keep [4]
     refine x_then_n <| wp_ret ?_
     obtain rfl := Option.some.inj H
     exact r1 h 4 rfl rfl ⟨_, rfl, v_7, N_5, M_5, rfl, (hS.sel [0, 1, 2] (by decide)), (ho_4.mono (Mem.un_left mr))⟩
    ·refine ⟨_, (bA 20 16367), rfl, by kernel_rfl, ?_⟩
     refine s_load h rfl rfl (el_one (o := 3) (fun j c h => Mem.cell_le (hS.own 2) (hc_3 j c h)) U4 rfl rfl) fun a h=>wpList_nil <| x_then_n ⟨(hS.sub (.cons mr (.zz (.zz (.zz .ii))))), ?_⟩
     refine t_take 14 (bA 20 32751) rfl rfl rfl rfl h (hS.sub (.cons mr (.zz (.zz (.zz .ii))))) (v := .agg ([iV t_1.1.From, iV t_1.1.To, v_1, .bool t_2.turned] : List Value).toArray) (fun w hS => r_build h ti60 pl60 rfl (.cons rfl (.cons rfl .nil)) (cs := [iV t_1.1.From, iV t_1.1.To, v_1, .bool t_2.turned]) (by kernel_rfl)) fun a h=>h_events [4, 15] (by kernel_rfl) (by simp) ?_
     intro i hi; simp only [List.mem_cons, List.not_mem_nil, or_false] at hi; rcases hi with rfl | rfl
     ·refine ⟨_, (bA 20 32767), rfl, by kernel_rfl, ?_⟩
      refine s_load h rfl rfl (hS.load_one (p := 1) rfl U56 rfl rfl) fun a h=>wpList_nil <| x_then_n ⟨(hS.sub (.cons mr (.zz (.zz (.zz .ii))))), ?_⟩
      refine h_event 15 (bA 20 65535) rfl (by kernel_rfl) (by kernel_rfl) ?_
      obtain ⟨N_6, hS', le_5, lo_3⟩ := hS.freeze 2 rfl
      replace hS : Sep w0 w_5 [N_6, _, _, Mem.no, _] Z := hS'
      have hq_3 : Reps k_nets_frame N_6 ([(⟨t_1.1, t_2.turned⟩ : nets_frame)] : List nets_frame) _ := ((Reps.one (d := k_nets_frame) (x := (⟨t_1.1, t_2.turned⟩ : nets_frame)) (k_nets_frame.mk' (hr_1.rd lo_3 (Mem.no_le _)))).append (Reps.nil k_nets_frame _))
      refine s_buildSlice h rfl U56 ti60 rfl rfl rfl (.cons rfl .nil) rfl rfl rfl hS hq_3 rfl fun w_12 v_8 M_6 hS' ho_5 a h => ?_
      replace hS : Sep w0 w_12 [_, _, _, _, _, M_6] Z := hS'
      refine wpList_nil <| x_then_n ⟨(hS.sub (.cons le_5 (.zz (.zz (.zz (.rr .nn)))))), ?_⟩
      refine h_event 16 (bA 20 131071) rfl (by kernel_rfl) (by kernel_rfl) <| s_append (J := N_6) (I' := (A.un N_6)) (p := 2) 2932031007402 h rfl rfl rfl U56 ti60 rfl rfl rfl rfl hS rfl hp0_0 (ho_5.src (hS.own 5)) (Mem.le_un _ _) (mr.trans (hS.sndA hA)) et_3 fun w_13 v_9 M_7 hS' ho_6 a h => ?_
      replace hS : Sep w0 w_13 [_, _, M_7, _, _, _] Z := hS'
      refine wpList_nil <| x_then_n ⟨(hS.sub (.cons le_5 (.zz (.zz (.zz (.rr .nn)))))), ?_⟩
      refine t_take 17 (bA 20 262143) rfl rfl rfl rfl h (hS.sub (.cons le_5 (.zz (.zz (.zz (.rr .nn)))))) (v := .pointer (some ⟨g0, 0, none⟩)) (fun w hS => r_nilCheck h rfl) fun a h=>t_take 18 (bA 20 524287) rfl rfl rfl rfl h (hS.sub (.cons le_5 (.zz (.zz (.zz (.rr .nn)))))) (v := .pointer (some ⟨g0, 2, none⟩)) (fun w hS => r_fieldAddr h U58 rfl ti56 rfl rfl rfl) fun a h=>h_event 19 (bA 20 1048575) rfl (by kernel_rfl) (by kernel_rfl) ?_
      refine sto 1 h rfl rfl hS rfl ti56 ho_6.cellsA rfl rfl (oc ho_6.one on0) fun w_14 hS' => ?_
      replace hS : Sep w0 w_14 [_, bx g0 58 [_, _, v_9], _, _, _, _] Z := hS'
      refine wpList_nil <| x_then_n ⟨(hS.sub (.cons le_5 (.zz (.zz (.zz (.rr .nn)))))), ?_⟩
      refine h_done (by kernel_rfl) <| x_then_n (hKJ_3 _ _ ?_)
      refine qr <| sg h rfl fun a h=>wpList_nil ?_
      replace h : Fr 39 a [(4, .bool true)] := h.keep [4]
      refine x_then_n <| wp_ret ?_
      obtain rfl := Option.some.inj H
      exact r1 h 4 rfl rfl ⟨_, rfl, v_9, N_6, M_7, rfl, (hS.sel [0, 1, 2] (by decide)), (ho_6.mono (Mem.un_left mr))⟩
     ·refine ⟨_, (bA 20 65519), rfl, by kernel_rfl, ?_⟩
      obtain ⟨N_7, hS', le_6, lo_4⟩ := hS.freeze 2 rfl
      replace hS : Sep w0 w_5 [N_7, _, _, Mem.no, _] Z := hS'
      have hq_4 : Reps k_nets_frame N_7 ([(⟨t_1.1, t_2.turned⟩ : nets_frame)] : List nets_frame) _ := ((Reps.one (d := k_nets_frame) (x := (⟨t_1.1, t_2.turned⟩ : nets_frame)) (k_nets_frame.mk' (hr_1.rd lo_4 (Mem.no_le _)))).append (Reps.nil k_nets_frame _))
      refine s_buildSlice h rfl U56 ti60 rfl rfl rfl (.cons rfl .nil) rfl rfl rfl hS hq_4 rfl fun w_15 v_10 M_8 hS' ho_7 a h => ?_
      replace hS : Sep w0 w_15 [_, _, _, _, _, M_8] Z := hS'
      refine wpList_nil <| x_then_n ⟨(hS.sub (.cons le_6 (.zz (.zz (.zz (.rr .nn)))))), ?_⟩
      refine h_event 4 (bA 20 65535) rfl (by kernel_rfl) (by kernel_rfl) <| s_load h rfl rfl (hS.load_one (p := 1) rfl U56 rfl rfl) fun a h=>wpList_nil <| x_then_n ⟨(hS.sub (.cons le_6 (.zz (.zz (.zz (.rr .nn)))))), ?_⟩
      refine h_event 16 (bA 20 131071) rfl (by kernel_rfl) (by kernel_rfl) <| s_append (J := N_7) (I' := (A.un N_7)) (p := 2) 2932031007402 h rfl rfl rfl U56 ti60 rfl rfl rfl rfl hS rfl hp0_0 (ho_7.src (hS.own 5)) (Mem.le_un _ _) (mr.trans (hS.sndA hA)) et_3 fun w_16 v_11 M_9 hS' ho_8 a h => ?_
      replace hS : Sep w0 w_16 [_, _, M_9, _, _, _] Z := hS'
      refine wpList_nil <| x_then_n ⟨(hS.sub (.cons le_6 (.zz (.zz (.zz (.rr .nn)))))), ?_⟩
      refine t_take 17 (bA 20 262143) rfl rfl rfl rfl h (hS.sub (.cons le_6 (.zz (.zz (.zz (.rr .nn)))))) (v := .pointer (some ⟨g0, 0, none⟩)) (fun w hS => r_nilCheck h rfl) fun a h=>t_take 18 (bA 20 524287) rfl rfl rfl rfl h (hS.sub (.cons le_6 (.zz (.zz (.zz (.rr .nn)))))) (v := .pointer (some ⟨g0, 2, none⟩)) (fun w hS => r_fieldAddr h U58 rfl ti56 rfl rfl rfl) fun a h=>h_event 19 (bA 20 1048575) rfl (by kernel_rfl) (by kernel_rfl) ?_
      refine sto 1 h rfl rfl hS rfl ti56 ho_8.cellsA rfl rfl (oc ho_8.one on0) fun w_17 hS' => ?_
      replace hS : Sep w0 w_17 [_, bx g0 58 [_, _, v_11], _, _, _, _] Z := hS'
      refine wpList_nil <| x_then_n ⟨(hS.sub (.cons le_6 (.zz (.zz (.zz (.rr .nn)))))), ?_⟩
      refine h_done (by kernel_rfl) <| x_then_n (hKJ_3 _ _ ?_)
      refine qr <| sg h rfl fun a h=>wpList_nil ?_
      replace h : Fr 39 a [(4, .bool true)] := h.keep [4]
      refine x_then_n <| wp_ret ?_
      obtain rfl := Option.some.inj H
      exact r1 h 4 rfl rfl ⟨_, rfl, v_11, N_7, M_9, rfl, (hS.sel [0, 1, 2] (by decide)), (ho_8.mono (Mem.un_left mr))⟩
 clear hKJ_2
 refine wp_region_lit <| mv h rfl fun a h=>s_not h rfl rfl fun a h=>mv h rfl fun a h=>?_
 obtain ⟨hc_4, H⟩ | ⟨hc_4, H⟩ := ii H
 ·refine s_on h rfl rfl (nf hc_4) <| mv h rfl fun a h=>s_on h rfl rfl (nf hc_4) ?_
  obtain ⟨t_4, et_4, H⟩ := bs H
  refine s_call h rfl Try.call26 rfl (nets_Net_room.calls _ x0_n x0_mask x0_l _ t_4 w0 _ _ _ mr (hS.enter [0] (by decide)) (hp0_0.rd (hS.own_zed [0] 1 (by decide)) (hA.trans (hS.le_zed [0]))) et_4) ?_
  rintro _ w_18 ⟨N_8, rfl, hS'⟩
  intro a h
  obtain ⟨N_9, hS'', le_7, ln_2⟩ := hS.call [0] (by decide) rfl (l' := [_]) (ow := []) rfl hS'
  replace hS : Sep w0 w_18 [N_9, _, _, _, _] Z := hS''
  refine s_on h rfl rfl (nf hc_4) <| s_not h rfl rfl fun a h=>pf h rfl (nf hc_4) fun a h=>wpList_nil ?_
  exact x_then_n (hJ_j_1 (!t_4) H _ _ ⟨N_9, (h.keep [0, 1, 4, 5, 19]), (hS.sel [0, 1, 2, 3, 4] (by decide)), le_7⟩)
 ·refine of h rfl rfl (nt (ef hc_4)) fun a h=>of h rfl rfl (nt (ef hc_4)) fun a h=>of h rfl rfl (nt (ef hc_4)) fun a h=>pt h rfl (nt (ef hc_4)) fun a h=>wpList_nil ?_
  exact x_then_n (hJ_j_1 true H _ _ ⟨N_2, (h.keep [0, 1, 4, 5, 19]), (hS.sel [0, 1, 2, 3, 4] (by decide)), mr⟩)

set_option maxHeartbeats 4000000 in
set_option maxRecDepth 20000 in
theorem nets_Net_Flip.calls (g0 : Nat) (x0_n : Int) (x0_mask : Int) (x0_l : List nets_frame) (p0_0 : Value) (M0_0 : Mem) (x1 : Int) (x2 : Int) (r : Bool × Int × Int × (List nets_frame)) (w0 w : World) (Z A : Mem) (hA : A.le Z) (hS : Sep w0 w [bx g0 58 [iV x0_n, iV x0_mask, p0_0], M0_0] Z) (hp0_0 : Own k_nets_frame 60 M0_0 A p0_0 x0_l)
    (H : nets_Net_Flip.f x0_n x0_mask x0_l x1 x2 = some r) :
    Calls Try.prog 16 [.pointer (some ⟨g0, 0, none⟩), iV x1, iV x2].toArray w (Ret fun v w' => ∃ (u0 : Value) (N : Mem) (M100 : Mem), v = .bool r.1 ∧ Sep w0 w' [N, bx g0 58 [iV r.2.1, iV r.2.2.1, u0], M100] Z ∧ Own k_nets_frame 60 M100 (A.un N) u0 r.2.2.2) := by
 unfold nets_Net_Flip.f at H
 refine f_enter _ Try.func16 rfl Try.ntmps16 rfl fun a h=>?_
 replace h : Fr 67 a [(0, .pointer (some ⟨g0, 0, none⟩)), (1, iV x1), (2, iV x2)] := h
 replace hS := hS.start
 refine qr <| sg h rfl fun a h=>nx <| c_seq fun KJ_1 hKJ_1 => c_seq fun KJ_2 hKJ_2 => ?_
 have hJ_j_1 : ∀ (x_1 : Bool), nets_Net_Flip.J1 x0_n x0_mask x0_l x1 x2 x_1 = some r → ∀ (a : Act) (w_1 : World), (∃ (N_1 : Mem), Fr 67 a [(0, .pointer (some ⟨g0, 0, none⟩)), (1, iV x1), (2, iV x2), (6, .bool false), (25, .bool x_1)] ∧ Sep w0 w_1 [N_1, bx g0 58 [iV x0_n, iV x0_mask, p0_0], M0_0] Z ∧ Mem.no.le N_1) → KJ_2 a w_1 := by
  clear H h hS a
  rintro x_1 H a w_1 ⟨N_1, h, hS, le_1⟩
  unfold nets_Net_Flip.J1 at H
  refine hKJ_2 _ _ ?_
  obtain ⟨hc_1, H⟩ | ⟨hc_1, H⟩ := ii H
  ·refine c_cond_t h rfl hc_1 <| qr <| sg h rfl fun a h=>nx <| wp_ret (x_then_r ?_)
   obtain rfl := Option.some.inj H
   exact r1 h 6 rfl rfl ⟨_, rfl, p0_0, N_1, M0_0, rfl, (hS.sel [0, 1, 2] (by decide)), (hp0_0.mono (Mem.le_un _ _))⟩
  ·refine c_cond_f h rfl (ef hc_1) <| wp_skip <| x_then_n (hKJ_1 _ _ ?_)
   refine qr <| mv h rfl fun a h=>s_nilCheck h rfl rfl fun a h=>s_fieldAddr h rfl U58 rfl ti56 rfl rfl fun a h=>s_load h rfl rfl (hS.load_one (p := 1) rfl U56 rfl rfl) fun a h=>mv h rfl fun a h=>?_
   obtain ⟨t_1, et_1, H⟩ := bs H
   refine v_indexO h rfl U56 ti60 rfl rfl rfl hp0_0 (hS.own 2) et_1 fun ad_1 cs_1 hk_1 hc_2 => ?_
   obtain ⟨v_1, rfl, hr_1⟩ := k_nets_frame.open' hk_1
   intro a h
   refine s_fieldAddr h rfl U60 rfl ti44 rfl rfl fun a h=>s_fieldAddr h rfl U44 rfl ti26 rfl rfl fun a h=>s_load h rfl rfl (by rw [Addr.add_add]; exact el_one (o := 2) hc_2 U26 rfl rfl) fun a h=>?_
   obtain ⟨t_2, et_2, H⟩ := bs H
   refine s_call h rfl Try.call30 rfl (slices_Clone_sbyte_byte.calls t_1.f.Bytes _ t_2 w0 _ _ _ mr (hS.enter [] (by decide)) (hr_1.mono (hA.trans (hS.le_zed []))) et_2) ?_
   rintro v_2 w_2 ⟨_, N_2, M_1, rfl, hS', hr_2⟩
   intro a h
   obtain ⟨N_3, hS'', le_2, ln_1⟩ := hS.call [] (by decide) rfl (l' := []) (ow := [_]) rfl hS'
   replace hS : Sep w0 w_2 [N_3, _, _, _] Z := hS''
   refine sg h rfl fun a h=>nx <| qr <| mv h rfl fun a h=>mv h rfl fun a h=>s_lenO h rfl U26 rfl hr_2 fun a h=>s_arith (r := w64 (8 * (t_2.length : Int))) h rfl rfl rfl (.inr (.inr ⟨rfl, rfl⟩)) fun a h=>?_
   obtain ⟨t_3, et_3, H⟩ := bs H
   refine s_div (r := t_3) h rfl rfl rfl (rem_some et_3).1 (.inr ⟨rfl, (rem_some et_3).2⟩) fun a h=>sg h rfl fun a h=>nx <| c_seq fun KJ_3 hKJ_3 => h_begin (S := fun w => Sep w0 w [N_3, bx g0 58 [iV x0_n, iV x0_mask, p0_0], M0_0, Mem.no] Z) 11 (by kernel_rfl) rfl (bA 11 0) (by kernel_rfl) hS fun w_3 hS => ?_
   refine t_take 0 (bA 11 1) rfl rfl rfl rfl h (hS.sub (.cons mr (.rr (.rr (.zz .ii))))) (v := v_2) (fun w hS => r_move h rfl) fun a h=>t_take 1 (bA 11 3) rfl rfl rfl rfl h (hS.sub (.cons mr (.rr (.rr (.zz .ii))))) (v := iV t_3) (fun w hS => r_move h rfl) fun a h=>t_take 2 (bA 11 7) rfl rfl rfl rfl h (hS.sub (.cons mr (.rr (.rr (.zz .ii))))) (v := iV (w64 (Int.tdiv t_3 8))) (fun w hS => r_div (r := w64 (Int.tdiv t_3 8)) h rfl rfl (by decide) (.inl ⟨rfl, rfl⟩)) fun a h=>?_
   obtain ⟨t_4, et_4, H⟩ := bs H
   refine t_takeE 3 (bA 11 15) rfl rfl rfl rfl h (hS.sub (.cons mr (.rr (.rr (.zz .ii))))) (f := fun ad => .pointer (some ad)) (r_indexO h U26 ti5 rfl rfl rfl hr_2 et_4) ?_
   rintro ad_2 ⟨cs_2, hk_2, hc_3⟩
   obtain rfl := (show cs_2 = [.int .u8 (t_4.toNat : Int)] from hk_2)
   intro a h
   refine t_take 5 (bA 11 47) rfl rfl rfl rfl h (hS.sub (.cons mr (.rr (.rr (.zz .ii))))) (v := iV t_3) (fun w hS => r_move h rfl) fun a h=>t_take 6 (bA 11 111) rfl rfl rfl rfl h (hS.sub (.cons mr (.rr (.rr (.zz .ii))))) (v := iV (Int.tmod t_3 8)) (fun w hS => r_div (r := Int.tmod t_3 8) h rfl rfl (by decide) (.inr ⟨rfl, rfl⟩)) fun a h=>?_
   obtain ⟨u_1, eu_1, H⟩ := bs H
   refine t_take 7 (bA 11 239) rfl rfl rfl rfl h (hS.sub (.cons mr (.rr (.rr (.zz .ii))))) (v := .int .u8 ((toU8 (((1 : UInt8).toNat : Int) * 2 ^ (min (Int.tmod t_3 8 : Int).toNat 8))).toNat : Int)) (fun w hS => r_shift (r := ((toU8 (((1 : UInt8).toNat : Int) * 2 ^ (min (Int.tmod t_3 8 : Int).toNat 8))).toNat : Int)) h rfl rfl (must_some eu_1) (.inl ⟨rfl, (wrap_u8 _).symm⟩)) fun a h=>h_event 4 (bA 11 255) rfl (by kernel_rfl) (by kernel_rfl) <| s_load h rfl rfl (el_one (o := 0) (fun j c h => Mem.cell_le (hS.own 3) (hc_3 j c h)) U5 rfl rfl) fun a h=>wpList_nil <| x_then_n ⟨(hS.sub (.cons mr (.rr (.rr (.zz .ii))))), ?_⟩
   refine t_take 8 (bA 11 511) rfl rfl rfl rfl h (hS.sub (.cons mr (.rr (.rr (.zz .ii))))) (v := .int .u8 ((t_4 ^^^ (toU8 (((1 : UInt8).toNat : Int) * 2 ^ (min (Int.tmod t_3 8 : Int).toNat 8)))).toNat : Int)) (fun w hS => r_bits (i := (t_4.toNat : Int)) (j := ((toU8 (((1 : UInt8).toNat : Int) * 2 ^ (min (Int.tmod t_3 8 : Int).toNat 8))).toNat : Int)) (r := ((t_4 ^^^ (toU8 (((1 : UInt8).toNat : Int) * 2 ^ (min (Int.tmod t_3 8 : Int).toNat 8)))).toNat : Int)) h rfl rfl (.inr (.inr (.inl ⟨rfl, (bxor8 _ _).symm⟩)))) fun a h=>h_event 9 (bA 11 1023) rfl (by kernel_rfl) (by kernel_rfl) ?_
   obtain ⟨t_5, et_5, H⟩ := bs H
   refine s_indexOwn h rfl U26 ti5 rfl rfl rfl hr_2 et_5 fun g_1 cur_34 hM_1 a h => wpList_nil <| x_then_n ⟨(hS.sub (.cons mr (.rr (.rr (.zz .ii))))), ?_⟩
   refine h_event 10 (bA 11 2047) rfl (by kernel_rfl) (by kernel_rfl) ?_
   obtain ⟨w_4, M_2, hs', hS', ho_1⟩ := Own.stored (P := Try.prog) (p := 3) (t := 5) (o := 0) (nv := .int .u8 ((t_4 ^^^ (toU8 (((1 : UInt8).toNat : Int) * 2 ^ (min (Int.tmod t_3 8 : Int).toNat 8)))).toNat : Int)) (vs := [.int .u8 ((t_4 ^^^ (toU8 (((1 : UInt8).toNat : Int) * 2 ^ (min (Int.tmod t_3 8 : Int).toNat 8)))).toNat : Int)]) (u' := t_4 ^^^ (toU8 (((1 : UInt8).toNat : Int) * 2 ^ (min (Int.tmod t_3 8 : Int).toNat 8)))) hS rfl hr_2 hM_1 et_5 ti5 rfl rfl rfl (oz rfl) (fun cs hk => by obtain rfl := (show cs = [_] from hk); rfl)
   refine s_store h rfl rfl hs' ?_
   replace hS : Sep w0 w_4 [_, _, _, M_2] Z := hS'
   refine wpList_nil <| x_then_n ⟨(hS.sub (.cons mr (.rr (.rr (.zz .ii))))), ?_⟩
   refine h_done (by kernel_rfl) ?_
   replace h : Fr 67 a [(0, _), (1, _), (6, _), (7, v_2)] := h.keep [0, 1, 6, 7]
   refine x_then_n (hKJ_3 _ _ ?_)
   refine c_seq fun KJ_4 hKJ_4 => h_begin (S := fun w => Sep w0 w [N_3, bx g0 58 [iV x0_n, iV x0_mask, p0_0], Mem.no, Mem.no] Z) 18 (by kernel_rfl) rfl (bA 18 0) (by kernel_rfl) hS fun w_5 hS => ?_
   refine t_take 0 (bA 18 1) rfl rfl rfl rfl h (hS.sub (.cons mr (.rr (.zz (.zz .ii))))) (v := .pointer (some ⟨g0, 0, none⟩)) (fun w hS => r_move h rfl) fun a h=>t_take 1 (bA 18 3) rfl rfl rfl rfl h (hS.sub (.cons mr (.rr (.zz (.zz .ii))))) (v := .pointer (some ⟨g0, 0, none⟩)) (fun w hS => r_nilCheck h rfl) fun a h=>t_take 2 (bA 18 7) rfl rfl rfl rfl h (hS.sub (.cons mr (.rr (.zz (.zz .ii))))) (v := .pointer (some ⟨g0, 2, none⟩)) (fun w hS => r_fieldAddr h U58 rfl ti56 rfl rfl rfl) fun a h=>t_take 3 (bA 18 15) rfl rfl rfl rfl h (hS.sub (.cons mr (.rr (.zz (.zz .ii))))) (v := p0_0) (fun w hS => r_load h rfl (hS.load_one (p := 1) rfl U56 rfl rfl)) fun a h=>t_take 4 (bA 18 31) rfl rfl rfl rfl h (hS.sub (.cons mr (.rr (.zz (.zz .ii))))) (v := iV x1) (fun w hS => r_move h rfl) fun a h=>t_take 5 (bA 18 63) rfl rfl rfl rfl h (hS.sub (.cons mr (.rr (.zz (.zz .ii))))) (v := .pointer (some ⟨g0, 0, none⟩)) (fun w hS => r_move h rfl) fun a h=>?_
   refine t_take 6 (bA 18 127) rfl rfl rfl rfl h (hS.sub (.cons mr (.rr (.zz (.zz .ii))))) (v := .pointer (some ⟨g0, 0, none⟩)) (fun w hS => r_nilCheck h rfl) fun a h=>t_take 7 (bA 18 255) rfl rfl rfl rfl h (hS.sub (.cons mr (.rr (.zz (.zz .ii))))) (v := .pointer (some ⟨g0, 2, none⟩)) (fun w hS => r_fieldAddr h U58 rfl ti56 rfl rfl rfl) fun a h=>t_take 8 (bA 18 511) rfl rfl rfl rfl h (hS.sub (.cons mr (.rr (.zz (.zz .ii))))) (v := p0_0) (fun w hS => r_load h rfl (hS.load_one (p := 1) rfl U56 rfl rfl)) fun a h=>t_take 9 (bA 18 1023) rfl rfl rfl rfl h (hS.sub (.cons mr (.rr (.zz (.zz .ii))))) (v := iV x1) (fun w hS => r_move h rfl) fun a h=>t_take 10 (bA 18 2047) rfl rfl rfl rfl h (hS.sub (.cons mr (.rr (.zz (.zz .ii))))) (v := v_2) (fun w hS => r_move h rfl) fun a h=>h_event 11 (bA 18 4095) rfl (by kernel_rfl) (by kernel_rfl) ?_
   obtain ⟨t_6, et_6, H⟩ := bs H
   refine s_indexOwn h rfl U56 ti60 rfl rfl rfl hp0_0 et_6 fun g_2 cur_43 hM_2 a h => wpList_nil <| x_then_n ⟨(hS.sub (.cons mr (.rr (.zz (.zz .ii))))), ?_⟩
   refine t_take 12 (bA 18 8191) rfl rfl rfl rfl h (hS.sub (.cons mr (.rr (.zz (.zz .ii))))) (v := .pointer (some ⟨g_2, (x1).toNat * k_nets_frame.sz + 0, none⟩)) (fun w hS => r_fieldAddr h U60 rfl ti44 rfl rfl rfl) fun a h=>t_take 13 (bA 18 16383) rfl rfl rfl rfl h (hS.sub (.cons mr (.rr (.zz (.zz .ii))))) (v := .pointer (some ⟨g_2, (x1).toNat * k_nets_frame.sz + 2, none⟩)) (fun w hS => r_fieldAddr h U44 rfl ti26 rfl rfl rfl) fun a h=>h_event 14 (bA 18 32767) rfl (by kernel_rfl) (by kernel_rfl) ?_
   obtain ⟨N_4, hS', le_3, lo_1⟩ := hS.freeze 2 rfl
   replace hS : Sep w0 w_5 [N_4, _, _, Mem.no] Z := hS'
   obtain ⟨w_6, M_3, hs', hS', ho_2⟩ := Own.stored (P := Try.prog) (p := 2) (t := 26) (o := 2) (nv := v_2) (vs := [v_2]) (u' := (⟨(⟨t_6.f.From, t_6.f.To, (t_2.set ((w64 (Int.tdiv t_3 8))).toNat (t_4 ^^^ (toU8 (((1 : UInt8).toNat : Int) * 2 ^ (min (Int.tmod t_3 8 : Int).toNat 8)))))⟩ : api_Flight), t_6.turned⟩ : nets_frame)) hS rfl (hp0_0.mono (Mem.le_un _ _)) hM_2 et_6 ti26 (ho_1.rd lo_1 (Mem.no_le _)).cellsA rfl rfl (oc (ho_1.rd lo_1 (Mem.no_le _)).one on0) (by intro cs hk; obtain ⟨v_3, rfl, hr_3⟩ := k_nets_frame.open' hk; exact k_nets_frame.mk' ((ho_1.rd lo_1 (Mem.no_le _)).mono (mr.trans (hS.sndA hA))))
   refine s_store h rfl rfl hs' ?_
   replace hS : Sep w0 w_6 [_, _, M_3, _] Z := hS'
   refine wpList_nil <| x_then_n ⟨(hS.sub (.cons le_3 (.rr (.zz (.zz .ii))))), ?_⟩
   refine h_event 15 (bA 18 65535) rfl (by kernel_rfl) (by kernel_rfl) ?_
   obtain ⟨t_7, et_7, H⟩ := bs H
   refine s_indexOwn h rfl U56 ti60 rfl rfl rfl ho_2 et_7 fun g_3 cur_53 hM_3 a h => wpList_nil <| x_then_n ⟨(hS.sub (.cons le_3 (.rr (.zz (.zz .ii))))), ?_⟩
   refine t_take 16 (bA 18 131071) rfl rfl rfl rfl h (hS.sub (.cons le_3 (.rr (.zz (.zz .ii))))) (v := .pointer (some ⟨g_3, (x1).toNat * k_nets_frame.sz + 3, none⟩)) (fun w hS => r_fieldAddr h U60 rfl ti4 rfl rfl rfl) fun a h=>h_event 17 (bA 18 262143) rfl (by kernel_rfl) (by kernel_rfl) ?_
   obtain ⟨w_7, M_4, hs', hS', ho_3⟩ := Own.stored (P := Try.prog) (p := 2) (t := 4) (o := 3) (nv := .bool true) (vs := [.bool true]) (u' := (⟨t_7.f, true⟩ : nets_frame)) hS rfl ho_2 hM_3 et_7 ti4 rfl rfl rfl (oz rfl) (by intro cs hk; obtain ⟨v_4, rfl, hr_4⟩ := k_nets_frame.open' hk; exact k_nets_frame.mk' hr_4)
   refine s_store h rfl rfl hs' ?_
   replace hS : Sep w0 w_7 [_, _, M_4, _] Z := hS'
   refine wpList_nil <| x_then_n ⟨(hS.sub (.cons le_3 (.rr (.zz (.zz .ii))))), ?_⟩
   refine h_done (by kernel_rfl) <| x_then_n (hKJ_4 _ _ ?_)
   refine qr <| sg h rfl fun a h=>nx <| wp_ret ?_
   obtain rfl := Option.some.inj H
   exact r1 h 6 rfl rfl ⟨_, rfl, p0_0, N_4, M_4, rfl, (hS.sel [0, 1, 2] (by decide)), (ho_3.mono (Mem.un_left mr))⟩
 clear hKJ_2
 refine wp_region_lit <| mv h rfl fun a h=>mv h rfl fun a h=>?_
 obtain ⟨t_8, et_8, H⟩ := bs H
 refine s_call h rfl Try.call29 rfl (nets_Net_has.calls _ x0_n x0_mask x0_l _ x1 t_8 w0 _ _ _ mr (hS.enter [0] (by decide)) (hp0_0.rd (hS.own_zed [0] 1 (by decide)) (hA.trans (hS.le_zed [0]))) et_8) ?_
 rintro _ w_8 ⟨N_5, rfl, hS'⟩
 intro a h
 obtain ⟨N_6, hS'', le_4, ln_2⟩ := hS.call [0] (by decide) rfl (l' := [_]) (ow := []) rfl hS'
 replace hS : Sep w0 w_8 [N_6, _, _] Z := hS''
 refine s_not h rfl rfl fun a h=>mv h rfl fun a h=>?_
 obtain ⟨hc_4, H⟩ | ⟨hc_4, H⟩ := ii H
 ·refine s_on h rfl rfl (nf hc_4) <| mv h rfl fun a h=>s_on h rfl rfl (nf hc_4) <| s_cmp (b := decide (x2 < 0)) h rfl rfl rfl (.inr (.inr (.inl ⟨rfl, rfl⟩))) fun a h=>pf h rfl (nf hc_4) fun a h=>mv h rfl fun a h=>?_
  obtain ⟨hc_5, H⟩ | ⟨hc_5, H⟩ := ii H
  ·refine of h rfl rfl (dt hc_5) fun a h=>of h rfl rfl (dt hc_5) fun a h=>of h rfl rfl (dt hc_5) fun a h=>of h rfl rfl (dt hc_5) fun a h=>of h rfl rfl (dt hc_5) fun a h=>of h rfl rfl (dt hc_5) fun a h=>of h rfl rfl (dt hc_5) fun a h=>of h rfl rfl (dt hc_5) fun a h=>pt h rfl (dt hc_5) fun a h=>wpList_nil ?_
   exact x_then_n (hJ_j_1 true H _ _ ⟨N_6, (h.keep [0, 1, 2, 6, 25]), (hS.sel [0, 1, 2] (by decide)), le_4⟩)
  ·refine s_on h rfl rfl (df hc_5) <| mv h rfl fun a h=>s_on h rfl rfl (df hc_5) <| s_nilCheck h rfl rfl fun a h=>s_on h rfl rfl (df hc_5) <| s_fieldAddr h rfl U58 rfl ti56 rfl rfl fun a h=>s_on h rfl rfl (df hc_5) <| s_load h rfl rfl (hS.load_one (p := 1) rfl U56 rfl rfl) fun a h=>s_on h rfl rfl (df hc_5) <| mv h rfl fun a h=>s_on h rfl rfl (df hc_5) ?_
   obtain ⟨t_9, et_9, H⟩ := bs H
   refine v_indexO h rfl U56 ti60 rfl rfl rfl hp0_0 (hS.own 2) et_9 fun ad_3 cs_3 hk_3 hc_6 => ?_
   obtain ⟨v_5, rfl, hr_5⟩ := k_nets_frame.open' hk_3
   intro a h
   refine s_on h rfl rfl (df hc_5) <| s_fieldAddr h rfl U60 rfl ti4 rfl rfl fun a h=>s_on h rfl rfl (df hc_5) <| s_load h rfl rfl (el_one (o := 3) hc_6 U4 rfl rfl) fun a h=>pf h rfl (df hc_5) fun a h=>wpList_nil ?_
   exact x_then_n (hJ_j_1 t_9.turned H _ _ ⟨N_6, (h.keep [0, 1, 2, 6, 25]), (hS.sel [0, 1, 2] (by decide)), le_4⟩)
 ·refine of h rfl rfl (nt (ef hc_4)) fun a h=>of h rfl rfl (nt (ef hc_4)) fun a h=>pt h rfl (nt (ef hc_4)) fun a h=>mv h rfl fun a h=>oo h rfl rfl fun a h=>oo h rfl rfl fun a h=>oo h rfl rfl fun a h=>oo h rfl rfl fun a h=>oo h rfl rfl fun a h=>oo h rfl rfl fun a h=>oo h rfl rfl fun a h=>oo h rfl rfl fun a h=>?_
  refine pt h rfl rfl fun a h=>wpList_nil ?_
  exact x_then_n (hJ_j_1 true H _ _ ⟨N_6, (h.keep [0, 1, 2, 6, 25]), (hS.sel [0, 1, 2] (by decide)), le_4⟩)

set_option maxHeartbeats 4000000 in
set_option maxRecDepth 20000 in
theorem nets_Net_Split.calls (g0 : Nat) (x0_n : Int) (x0_mask : Int) (x0_l : List nets_frame) (p0_0 : Value) (M0_0 : Mem) (x1 : Int) (r : Int × Int × (List nets_frame)) (w0 w : World) (Z A : Mem) (hA : A.le Z) (hS : Sep w0 w [bx g0 58 [iV x0_n, iV x0_mask, p0_0], M0_0] Z) (hp0_0 : Own k_nets_frame 60 M0_0 A p0_0 x0_l)
    (H : nets_Net_Split.f x0_n x0_mask x0_l x1 = some r) :
    Calls Try.prog 19 [.pointer (some ⟨g0, 0, none⟩), iV x1].toArray w (Ret fun v w' => ∃ (u0 : Value) (N : Mem) (M100 : Mem), v = .tuple [].toArray ∧ Sep w0 w' [N, bx g0 58 [iV r.1, iV r.2.1, u0], M100] Z ∧ Own k_nets_frame 60 M100 (A.un N) u0 r.2.2) := by
 unfold nets_Net_Split.f at H
 refine f_enter _ Try.func19 rfl Try.ntmps19 rfl fun a h=>?_
 replace h : Fr 8 a [(0, .pointer (some ⟨g0, 0, none⟩)), (1, iV x1)] := h
 replace hS := hS.start
 refine wp_region_lit <| mv h rfl fun a h=>mv h rfl fun a h=>s_nilCheck h rfl rfl fun a h=>s_fieldAddr h rfl U58 rfl ti3 rfl rfl fun a h=>?_
 refine sto 1 h rfl rfl hS rfl ti3 rfl rfl rfl (oz rfl) fun w_1 hS' => ?_
 replace hS : Sep w0 w_1 [_, bx g0 58 [_, iV x1, _], _] Z := hS'
 refine wpList_nil <| f_end ?_
 obtain rfl := Option.some.inj H
 exact f_ret h (rs := []) rfl .nil ⟨_, rfl, p0_0, Mem.no, M0_0, rfl, (hS.sel [0, 1, 2] (by decide)), (hp0_0.mono (Mem.le_un _ _))⟩

set_option maxHeartbeats 4000000 in
set_option maxRecDepth 20000 in
theorem hocketlaw7_Keys.calls (x0 : Int) (r : (List UInt8)) (w0 w : World) (Z A : Mem) (hA : A.le Z) (hS : Sep w0 w [] Z)
    (H : hocketlaw7_Keys.f x0 = some r) :
    Calls Try.prog 60 [iV x0].toArray w (Ret fun v w' => ∃ (u0 : Value) (N : Mem), v = u0 ∧ Sep w0 w' [N] Z ∧ Rd Kd.u8 N u0 r) := by
 unfold hocketlaw7_Keys.f at H
 refine f_enter _ Try.func60 rfl Try.ntmps60 rfl fun a h=>?_
 replace h : Fr 9 a [(0, iV x0)] := h
 replace hS := hS.start
 refine qr <| sg h rfl fun a h=>nx <| wp_seq <| wp_region_lit ?_
 have hq_1 : Reps Kd.str Mem.no ([([] : List UInt8), ([97] : List UInt8), ([98] : List UInt8), ([99] : List UInt8), ([97, 98] : List UInt8), ([97, 98, 99] : List UInt8), ([122] : List UInt8), ([0] : List UInt8), ([255] : List UInt8), ([97, 98, 99, 100, 101, 102, 103, 104] : List UInt8), ([97, 98, 99, 100, 101, 102, 103, 104, 105] : List UInt8), ([107, 49] : List UInt8), ([107, 50] : List UInt8), ([107, 51] : List UInt8), ([107, 52] : List UInt8), ([107, 53] : List UInt8)] : List (List UInt8)) _ := ((Reps.one (d := Kd.str) (x := ([] : List UInt8)) (show Kd.str.K _ _ [.string ⟨([] : List UInt8).toArray⟩] from rfl)).append ((Reps.one (d := Kd.str) (x := ([97] : List UInt8)) (show Kd.str.K _ _ [.string ⟨([97] : List UInt8).toArray⟩] from rfl)).append ((Reps.one (d := Kd.str) (x := ([98] : List UInt8)) (show Kd.str.K _ _ [.string ⟨([98] : List UInt8).toArray⟩] from rfl)).append ((Reps.one (d := Kd.str) (x := ([99] : List UInt8)) (show Kd.str.K _ _ [.string ⟨([99] : List UInt8).toArray⟩] from rfl)).append ((Reps.one (d := Kd.str) (x := ([97, 98] : List UInt8)) (show Kd.str.K _ _ [.string ⟨([97, 98] : List UInt8).toArray⟩] from rfl)).append ((Reps.one (d := Kd.str) (x := ([97, 98, 99] : List UInt8)) (show Kd.str.K _ _ [.string ⟨([97, 98, 99] : List UInt8).toArray⟩] from rfl)).append ((Reps.one (d := Kd.str) (x := ([122] : List UInt8)) (show Kd.str.K _ _ [.string ⟨([122] : List UInt8).toArray⟩] from rfl)).append ((Reps.one (d := Kd.str) (x := ([0] : List UInt8)) (show Kd.str.K _ _ [.string ⟨([0] : List UInt8).toArray⟩] from rfl)).append ((Reps.one (d := Kd.str) (x := ([255] : List UInt8)) (show Kd.str.K _ _ [.string ⟨([255] : List UInt8).toArray⟩] from rfl)).append ((Reps.one (d := Kd.str) (x := ([97, 98, 99, 100, 101, 102, 103, 104] : List UInt8)) (show Kd.str.K _ _ [.string ⟨([97, 98, 99, 100, 101, 102, 103, 104] : List UInt8).toArray⟩] from rfl)).append ((Reps.one (d := Kd.str) (x := ([97, 98, 99, 100, 101, 102, 103, 104, 105] : List UInt8)) (show Kd.str.K _ _ [.string ⟨([97, 98, 99, 100, 101, 102, 103, 104, 105] : List UInt8).toArray⟩] from rfl)).append ((Reps.one (d := Kd.str) (x := ([107, 49] : List UInt8)) (show Kd.str.K _ _ [.string ⟨([107, 49] : List UInt8).toArray⟩] from rfl)).append ((Reps.one (d := Kd.str) (x := ([107, 50] : List UInt8)) (show Kd.str.K _ _ [.string ⟨([107, 50] : List UInt8).toArray⟩] from rfl)).append ((Reps.one (d := Kd.str) (x := ([107, 51] : List UInt8)) (show Kd.str.K _ _ [.string ⟨([107, 51] : List UInt8).toArray⟩] from rfl)).append ((Reps.one (d := Kd.str) (x := ([107, 52] : List UInt8)) (show Kd.str.K _ _ [.string ⟨([107, 52] : List UInt8).toArray⟩] from rfl)).append ((Reps.one (d := Kd.str) (x := ([107, 53] : List UInt8)) (show Kd.str.K _ _ [.string ⟨([107, 53] : List UInt8).toArray⟩] from rfl)).append (Reps.nil Kd.str _)))))))))))))))))
 refine s_buildSlice h rfl U83 ti9 rfl rfl rfl (.cons rfl (.cons rfl (.cons rfl (.cons rfl (.cons rfl (.cons rfl (.cons rfl (.cons rfl (.cons rfl (.cons rfl (.cons rfl (.cons rfl (.cons rfl (.cons rfl (.cons rfl (.cons rfl .nil)))))))))))))))) rfl rfl rfl hS hq_1 rfl fun w_1 v_1 M_1 hS' ho_1 a h => ?_
 replace hS : Sep w0 w_1 [_, M_1] Z := hS'
 refine mv h rfl fun a h=>s_bits (i := x0) (j := 15) (r := band .i64 x0 15) h rfl rfl rfl (.inl ⟨rfl, rfl⟩) fun a h=>?_
 obtain ⟨t_1, et_1, H⟩ := bs H
 refine v_indexO h rfl U83 ti9 rfl rfl rfl ho_1 (hS.own 1) et_1 fun ad_1 cs_1 hk_1 hc_1 => ?_
 obtain rfl := (show cs_1 = [.string ⟨t_1.toArray⟩] from hk_1)
 intro a h
 refine s_load h rfl rfl (el_one (o := 0) hc_1 U9 rfl rfl) fun a h=>?_
 obtain ⟨u_1, eu_1, H⟩ := bs H
 refine s_s2b h rfl U9 U26 U5 rfl (must_some eu_1) hS fun w_2 v_2 M_2 hS' hr_1 a h => ?_
 obtain ⟨N_1, hS'', le_1, lo_1⟩ := Sep.freeze (l := [M_1, M_2]) hS' 1 rfl
 replace hS : Sep w0 w_2 [N_1, _, _] Z := hS''
 refine sg h rfl fun a h=>nx <| wp_ret ?_
 obtain rfl := Option.some.inj H
 exact r1 h 2 rfl rfl ⟨_, rfl, v_2, N_1, rfl, (hS.sel [0] (by decide)), (hr_1.mono lo_1)⟩

set_option maxHeartbeats 4000000 in
set_option maxRecDepth 20000 in
theorem hocketlaw8_Cmd.calls (x0 : Int) (r : api_Cmd) (w0 w : World) (Z A : Mem) (hA : A.le Z) (hS : Sep w0 w [] Z)
    (H : hocketlaw8_Cmd.f x0 = some r) :
    Calls Try.prog 45 [iV x0].toArray w (Ret fun v w' => ∃ (u0 : Value) (u1 : Value) (u2 : Value) (N : Mem), v = .agg [iV r.Kind, iV r.Who, u0, u1, u2].toArray ∧ Sep w0 w' [N] Z ∧ Rd Kd.u8 N u0 r.Key ∧ Rd Kd.u8 N u1 r.Val ∧ Rd Kd.u8 N u2 r.Old) := by
 unfold hocketlaw8_Cmd.f at H
 refine f_enter _ Try.func45 rfl Try.ntmps45 rfl fun a h=>?_
 replace h : Fr 60 a [(0, iV x0)] := h
 replace hS := hS.start
 refine qr <| v_alloc h rfl ti28 hS fun w_1 g_1 hS' a h => ?_
 replace hS : Sep w0 w_1 [_, bx g_1 28 [iV 0, iV 0, nS, nS, nS]] Z := hS'
 refine nx <| wp_seq <| wp_region_lit ?_
 have hq_1 : Reps Kd.str Mem.no ([([] : List UInt8), ([97] : List UInt8), ([98] : List UInt8), ([97, 98] : List UInt8), ([118, 97, 108, 117, 101] : List UInt8), ([48, 49, 50, 51, 52, 53, 54, 55, 56, 57, 97, 98, 99, 100, 101, 102] : List UInt8), ([48, 49, 50, 51, 52, 53, 54, 55, 56, 57, 97, 98, 99, 100, 101, 102, 103] : List UInt8), ([0, 255] : List UInt8)] : List (List UInt8)) _ := ((Reps.one (d := Kd.str) (x := ([] : List UInt8)) (show Kd.str.K _ _ [.string ⟨([] : List UInt8).toArray⟩] from rfl)).append ((Reps.one (d := Kd.str) (x := ([97] : List UInt8)) (show Kd.str.K _ _ [.string ⟨([97] : List UInt8).toArray⟩] from rfl)).append ((Reps.one (d := Kd.str) (x := ([98] : List UInt8)) (show Kd.str.K _ _ [.string ⟨([98] : List UInt8).toArray⟩] from rfl)).append ((Reps.one (d := Kd.str) (x := ([97, 98] : List UInt8)) (show Kd.str.K _ _ [.string ⟨([97, 98] : List UInt8).toArray⟩] from rfl)).append ((Reps.one (d := Kd.str) (x := ([118, 97, 108, 117, 101] : List UInt8)) (show Kd.str.K _ _ [.string ⟨([118, 97, 108, 117, 101] : List UInt8).toArray⟩] from rfl)).append ((Reps.one (d := Kd.str) (x := ([48, 49, 50, 51, 52, 53, 54, 55, 56, 57, 97, 98, 99, 100, 101, 102] : List UInt8)) (show Kd.str.K _ _ [.string ⟨([48, 49, 50, 51, 52, 53, 54, 55, 56, 57, 97, 98, 99, 100, 101, 102] : List UInt8).toArray⟩] from rfl)).append ((Reps.one (d := Kd.str) (x := ([48, 49, 50, 51, 52, 53, 54, 55, 56, 57, 97, 98, 99, 100, 101, 102, 103] : List UInt8)) (show Kd.str.K _ _ [.string ⟨([48, 49, 50, 51, 52, 53, 54, 55, 56, 57, 97, 98, 99, 100, 101, 102, 103] : List UInt8).toArray⟩] from rfl)).append ((Reps.one (d := Kd.str) (x := ([0, 255] : List UInt8)) (show Kd.str.K _ _ [.string ⟨([0, 255] : List UInt8).toArray⟩] from rfl)).append (Reps.nil Kd.str _)))))))))
 refine s_buildSlice h rfl U83 ti9 rfl rfl rfl (.cons rfl (.cons rfl (.cons rfl (.cons rfl (.cons rfl (.cons rfl (.cons rfl (.cons rfl .nil)))))))) rfl rfl rfl hS hq_1 rfl fun w_2 v_1 M_1 hS' ho_1 a h => ?_
 replace hS : Sep w0 w_2 [_, _, M_1] Z := hS'
 refine mv h rfl fun a h=>s_shift (r := shr .i64 x0 5) h rfl rfl rfl (by decide) (.inr ⟨rfl, rfl⟩) fun a h=>s_bits (i := shr .i64 x0 5) (j := 7) (r := band .i64 (shr .i64 x0 5) 7) h rfl rfl rfl (.inl ⟨rfl, rfl⟩) fun a h=>?_
 obtain ⟨t_1, et_1, H⟩ := bs H
 refine v_indexO h rfl U83 ti9 rfl rfl rfl ho_1 (hS.own 2) et_1 fun ad_1 cs_1 hk_1 hc_1 => ?_
 obtain rfl := (show cs_1 = [.string ⟨t_1.toArray⟩] from hk_1)
 intro a h
 refine s_load h rfl rfl (el_one (o := 0) hc_1 U9 rfl rfl) fun a h=>?_
 obtain ⟨u_1, eu_1, H⟩ := bs H
 refine s_s2b h rfl U9 U26 U5 rfl (must_some eu_1) hS fun w_3 v_2 M_2 hS' hr_1 a h => ?_
 obtain ⟨N_1, hS'', le_1, lo_1⟩ := Sep.freeze (l := [bx g_1 28 [iV 0, iV 0, nS, nS, nS], M_1, M_2]) hS' 2 rfl
 replace hS : Sep w0 w_3 [N_1, _, _, _] Z := hS''
 refine sg h rfl fun a h=>nx <| c_seq fun KJ_1 hKJ_1 => ?_
 have hJ_j_1 : ∀ (x_1 : api_Cmd), hocketlaw8_Cmd.J1 x0 x_1 = some r → ∀ (a : Act) (w_4 : World), (∃ (v_3 : Value) (v_4 : Value) (v_5 : Value) (g_2 : Nat) (N_2 : Mem), Fr 60 a [(0, iV x0), (2, .pointer (some ⟨g_1, 0, none⟩)), (4, .pointer (some ⟨g_2, 0, none⟩))] ∧ Sep w0 w_4 [N_2, bx g_1 28 [iV 0, iV 0, nS, nS, nS], Mem.no, Mem.no, bx g_2 28 (E28 x_1 v_3 v_4 v_5)] Z ∧ N_1.le N_2 ∧ Rd Kd.u8 N_2 v_3 x_1.Key ∧ Rd Kd.u8 N_2 v_4 x_1.Val ∧ Rd Kd.u8 N_2 v_5 x_1.Old) → KJ_1 a w_4 := by
  clear H h hS a
  rintro x_1 H a w_4 ⟨v_3, v_4, v_5, g_2, N_2, h, hS, le_2, hr_2, hr_3, hr_4⟩
  unfold hocketlaw8_Cmd.J1 at H
  refine hKJ_1 _ _ <| c_seq fun KJ_2 hKJ_2 => c_seq fun KJ_3 hKJ_3 => ?_
  have hJ_j_2 : ∀ (x_2 : Bool), hocketlaw8_Cmd.J2 x0 x_1 x_2 = some r → ∀ (a : Act) (w_5 : World), (∃ (N_3 : Mem), Fr 60 a [(0, iV x0), (2, .pointer (some ⟨g_1, 0, none⟩)), (4, .pointer (some ⟨g_2, 0, none⟩)), (38, .bool x_2)] ∧ Sep w0 w_5 [N_3, bx g_1 28 [iV 0, iV 0, nS, nS, nS], Mem.no, Mem.no, bx g_2 28 (E28 x_1 v_3 v_4 v_5)] Z ∧ N_2.le N_3) → KJ_3 a w_5 := by
   clear H h hS a
   rintro x_2 H a w_5 ⟨N_3, h, hS, le_3⟩
   unfold hocketlaw8_Cmd.J2 at H
   refine hKJ_3 _ _ ?_
   have hJ_j_3 : ∀ (x_3 : Int), hocketlaw8_Cmd.J3 x0 x_1 x_3 = some r → ∀ (a : Act) (w_6 : World), (∃ (N_4 : Mem), Fr 60 a [(0, iV x0), (2, .pointer (some ⟨g_1, 0, none⟩)), (4, .pointer (some ⟨g_2, 0, none⟩))] ∧ Sep w0 w_6 [N_4, bx g_1 28 [iV 0, iV 0, nS, nS, nS], Mem.no, Mem.no, bx g_2 28 [iV x_3, iV x_1.Who, v_3, v_4, v_5]] Z ∧ N_3.le N_4) → KJ_2 a w_6 := by
    clear H h hS a
    rintro x_3 H a w_6 ⟨N_4, h, hS, le_4⟩
    unfold hocketlaw8_Cmd.J3 at H
    refine hKJ_2 _ _ <| c_seq fun KJ_4 hKJ_4 => qr <| mv h rfl fun a h=>s_shift (r := shr .i64 x0 19) h rfl rfl rfl (by decide) (.inr ⟨rfl, rfl⟩) fun a h=>s_bits (i := shr .i64 x0 19) (j := 31) (r := band .i64 (shr .i64 x0 19) 31) h rfl rfl rfl (.inl ⟨rfl, rfl⟩) fun a h=>s_cmp (b := ((band .i64 (shr .i64 x0 19) 31) == 0)) h rfl rfl rfl (.inl ⟨rfl, rfl⟩) fun a h=>wpList_nil <| x_then_n ?_
    obtain ⟨hc_2, H⟩ | ⟨hc_2, H⟩ := ii H
    ·refine c_cond_t h rfl (bt hc_2) <| qr <| mv h rfl fun a h=>s_shift (r := shr .i64 x0 24) h rfl rfl rfl (by decide) (.inr ⟨rfl, rfl⟩) fun a h=>s_bits (i := shr .i64 x0 24) (j := 31) (r := band .i64 (shr .i64 x0 24) 31) h rfl rfl rfl (.inl ⟨rfl, rfl⟩) fun a h=>s_fieldAddr h rfl U28 rfl ti3 rfl rfl fun a h=>?_
     refine sto 4 h rfl rfl hS rfl ti3 rfl rfl rfl (oz rfl) fun w_7 hS' => ?_
     replace hS : Sep w0 w_7 [_, _, _, _, bx g_2 28 [iV (band .i64 (shr .i64 x0 24) 31), _, _, _, _]] Z := hS'
     refine wpList_nil ?_
     replace h : Fr 60 a [(0, _), (2, _), (4, _)] := h.keep [0, 2, 4]
     refine x_then_n <| wp_region_lit <| mv h rfl fun a h=>s_shift (r := shr .i64 x0 17) h rfl rfl rfl (by decide) (.inr ⟨rfl, rfl⟩) fun a h=>s_bits (i := shr .i64 x0 17) (j := 2047) (r := band .i64 (shr .i64 x0 17) 2047) h rfl rfl rfl (.inl ⟨rfl, rfl⟩) fun a h=>s_arith (r := w64 ((band .i64 (shr .i64 x0 17) 2047) - 20)) h rfl rfl rfl (.inr (.inl ⟨rfl, rfl⟩)) fun a h=>s_fieldAddr h rfl U28 rfl ti3 rfl rfl fun a h=>?_
     refine sto 4 h rfl rfl hS rfl ti3 rfl rfl rfl (oz rfl) fun w_8 hS' => ?_
     replace hS : Sep w0 w_8 [_, _, _, _, Mem.one g_2 (.cells ([_, iV (w64 ((band .i64 (shr .i64 x0 17) 2047) - 20)), _, _, _] : List Value).toArray 28 (0, 0))] Z := hS'
     refine wpList_nil <| x_then_n (hKJ_4 _ _ ?_)
     refine qr <| s_load h rfl rfl (hS.load_agg (p := 4) (us := [iV (band .i64 (shr .i64 x0 24) 31), iV (w64 ((band .i64 (shr .i64 x0 17) 2047) - 20)), v_3, v_4, v_5]) rfl U28 rfl ti28 rfl rfl) fun a h=>?_
     refine sto 1 h rfl rfl hS rfl ti28 rfl rfl rfl (oa 2 rfl (oc hr_2.one (oc hr_3.one (oc hr_4.one on0)))) fun w_9 hS' => ?_
     replace hS : Sep w0 w_9 [_, Mem.one g_1 (.cells ([iV (band .i64 (shr .i64 x0 24) 31), iV (w64 ((band .i64 (shr .i64 x0 17) 2047) - 20)), v_3, v_4, v_5] : List Value).toArray 28 (0, 0)), _, _, _] Z := hS'
     refine nx <| wp_ret ?_
     obtain rfl := Option.some.inj H
     exact f_ret h (rs := [.cell 2 28]) rfl (.cell rfl (hS.load_agg (p := 1) (us := [iV (band .i64 (shr .i64 x0 24) 31), iV (w64 ((band .i64 (shr .i64 x0 17) 2047) - 20)), v_3, v_4, v_5]) rfl U28 rfl ti28 rfl rfl) .nil) ⟨_, rfl, v_3, v_4, v_5, N_4, rfl, (hS.sel [0] (by decide)), (hr_2.mono (le_3.trans le_4)), (hr_3.mono (le_3.trans le_4)), (hr_4.mono (le_3.trans le_4))⟩
    ·refine c_cond_f h rfl (bf hc_2) <| wp_skip <| x_then_n (hKJ_4 _ _ ?_)
     refine qr <| s_load h rfl rfl (hS.load_agg (p := 4) (us := [iV x_3, iV x_1.Who, v_3, v_4, v_5]) rfl U28 rfl ti28 rfl rfl) fun a h=>?_
     refine sto 1 h rfl rfl hS rfl ti28 rfl rfl rfl (oa 2 rfl (oc hr_2.one (oc hr_3.one (oc hr_4.one on0)))) fun w_10 hS' => ?_
     replace hS : Sep w0 w_10 [_, bx g_1 28 [iV x_3, iV x_1.Who, v_3, v_4, v_5], _, _, _] Z := hS'
     refine wpList_nil ?_
     replace h : Fr 60 a [(2, _)] := h.keep [2]
     refine x_then_n <| wp_ret ?_
     obtain rfl := Option.some.inj H
     exact f_ret h (rs := [.cell 2 28]) rfl (.cell rfl (hS.load_agg (p := 1) (us := [iV x_3, iV x_1.Who, v_3, v_4, v_5]) rfl U28 rfl ti28 rfl rfl) .nil) ⟨_, rfl, v_3, v_4, v_5, N_4, rfl, (hS.sel [0] (by decide)), (hr_2.mono (le_3.trans le_4)), (hr_3.mono (le_3.trans le_4)), (hr_4.mono (le_3.trans le_4))⟩
   clear hKJ_2
   obtain ⟨hc_3, H⟩ | ⟨hc_3, H⟩ := ii H
   ·refine c_cond_t h rfl hc_3 <| wp_region_lit ?_
    have hq_2 : Reps (Kd.int .i64) Mem.no ([1, 2, 4, 9] : List Int) _ := ((Reps.one (d := (Kd.int .i64)) (x := 1) (show (Kd.int .i64).K _ _ [iV 1] from rfl)).append ((Reps.one (d := (Kd.int .i64)) (x := 2) (show (Kd.int .i64).K _ _ [iV 2] from rfl)).append ((Reps.one (d := (Kd.int .i64)) (x := 4) (show (Kd.int .i64).K _ _ [iV 4] from rfl)).append ((Reps.one (d := (Kd.int .i64)) (x := 9) (show (Kd.int .i64).K _ _ [iV 9] from rfl)).append (Reps.nil (Kd.int .i64) _)))))
    refine s_buildSlice h rfl U22 ti3 rfl rfl rfl (.cons rfl (.cons rfl (.cons rfl (.cons rfl .nil)))) rfl rfl rfl hS hq_2 rfl fun w_11 v_6 M_3 hS' ho_2 a h => ?_
    replace hS : Sep w0 w_11 [_, _, _, _, _, M_3] Z := hS'
    refine mv h rfl fun a h=>s_shift (r := shr .i64 x0 17) h rfl rfl rfl (by decide) (.inr ⟨rfl, rfl⟩) fun a h=>s_bits (i := shr .i64 x0 17) (j := 3) (r := band .i64 (shr .i64 x0 17) 3) h rfl rfl rfl (.inl ⟨rfl, rfl⟩) fun a h=>?_
    obtain ⟨t_2, et_2, H⟩ := bs H
    refine v_indexO h rfl U22 ti3 rfl rfl rfl ho_2 (hS.own 5) et_2 fun ad_2 cs_2 hk_2 hc_4 => ?_
    obtain rfl := (show cs_2 = [iV t_2] from hk_2)
    intro a h
    refine s_load h rfl rfl (el_one (o := 0) hc_4 U3 rfl rfl) fun a h=>s_fieldAddr h rfl U28 rfl ti3 rfl rfl fun a h=>?_
    refine sto 4 h rfl rfl hS rfl ti3 rfl rfl rfl (oz rfl) fun w_12 hS' => ?_
    replace hS : Sep w0 w_12 [_, _, _, _, bx g_2 28 [iV t_2, _, _, _, _], _] Z := hS'
    refine wpList_nil ?_
    exact x_then_n (hJ_j_3 t_2 H _ _ ⟨N_3, (h.keep [0, 2, 4]), (hS.sel [0, 1, 1001, 1002, 4] (by decide)), mr⟩)
   ·refine c_cond_f h rfl (ef hc_3) <| wp_skip ?_
    exact x_then_n (hJ_j_3 x_1.Kind H _ _ ⟨N_3, (h.keep [0, 2, 4]), (hS.sel [0, 1, 1001, 1002, 4] (by decide)), mr⟩)
  clear hKJ_3
  refine wp_region_lit <| s_fieldAddr h rfl U28 rfl ti3 rfl rfl fun a h=>s_load h rfl rfl (hS.load_one (p := 4) rfl U3 rfl rfl) fun a h=>s_cmp (b := (x_1.Kind == 0)) h rfl rfl rfl (.inl ⟨rfl, rfl⟩) fun a h=>mv h rfl fun a h=>?_
  obtain ⟨hc_5, H⟩ | ⟨hc_5, H⟩ := ii H
  ·refine of h rfl rfl (bt hc_5) fun a h=>of h rfl rfl (bt hc_5) fun a h=>of h rfl rfl (bt hc_5) fun a h=>pt h rfl (bt hc_5) fun a h=>wpList_nil ?_
   exact x_then_n (hJ_j_2 true H _ _ ⟨N_2, (h.keep [0, 2, 4, 38]), (hS.sel [0, 1, 1001, 1002, 4] (by decide)), mr⟩)
  ·refine s_on h rfl rfl (bf hc_5) <| s_fieldAddr h rfl U28 rfl ti3 rfl rfl fun a h=>s_on h rfl rfl (bf hc_5) <| s_load h rfl rfl (hS.load_one (p := 4) rfl U3 rfl rfl) fun a h=>s_on h rfl rfl (bf hc_5) <| s_cmp (b := (x_1.Kind == 12)) h rfl rfl rfl (.inl ⟨rfl, rfl⟩) fun a h=>pf h rfl (bf hc_5) fun a h=>wpList_nil ?_
   exact x_then_n (hJ_j_2 (x_1.Kind == 12) H _ _ ⟨N_2, (h.keep [0, 2, 4, 38]), (hS.sel [0, 1, 1001, 1002, 4] (by decide)), mr⟩)
 clear hKJ_1
 refine h_begin (S := fun w => Sep w0 w [N_1, bx g_1 28 [iV 0, iV 0, nS, nS, nS], M_1, Mem.no] Z) 21 (by kernel_rfl) rfl (bA 21 0) (by kernel_rfl) hS fun w_13 hS => ?_
 refine t_take 0 (bA 21 1) rfl rfl rfl rfl h (hS.sub (.cons mr (.rr (.rr (.zz .ii))))) (v := iV x0) (fun w hS => r_move h rfl) fun a h=>t_take 1 (bA 21 3) rfl rfl rfl rfl h (hS.sub (.cons mr (.rr (.rr (.zz .ii))))) (v := iV (band .i64 x0 31)) (fun w hS => r_bits (i := x0) (j := 31) (r := band .i64 x0 31) h rfl rfl (.inl ⟨rfl, rfl⟩)) fun a h=>t_take 2 (bA 21 7) rfl rfl rfl rfl h (hS.sub (.cons mr (.rr (.rr (.zz .ii))))) (v := iV (Int.tmod (band .i64 x0 31) 13)) (fun w hS => r_div (r := Int.tmod (band .i64 x0 31) 13) h rfl rfl (by decide) (.inr ⟨rfl, rfl⟩)) fun a h=>t_take 3 (bA 21 15) rfl rfl rfl rfl h (hS.sub (.cons mr (.rr (.rr (.zz .ii))))) (v := iV (w64 ((Int.tmod (band .i64 x0 31) 13) + 0))) (fun w hS => r_arith (r := w64 ((Int.tmod (band .i64 x0 31) 13) + 0)) h rfl rfl (.inl ⟨rfl, rfl⟩)) fun a h=>t_take 4 (bA 21 31) rfl rfl rfl rfl h (hS.sub (.cons mr (.rr (.rr (.zz .ii))))) (v := iV x0) (fun w hS => r_move h rfl) fun a h=>t_take 5 (bA 21 63) rfl rfl rfl rfl h (hS.sub (.cons mr (.rr (.rr (.zz .ii))))) (v := iV (shr .i64 x0 8)) (fun w hS => r_shift (r := shr .i64 x0 8) h rfl rfl (by decide) (.inr ⟨rfl, rfl⟩)) fun a h=>?_
 refine t_take 6 (bA 21 127) rfl rfl rfl rfl h (hS.sub (.cons mr (.rr (.rr (.zz .ii))))) (v := iV (band .i64 (shr .i64 x0 8) 7)) (fun w hS => r_bits (i := shr .i64 x0 8) (j := 7) (r := band .i64 (shr .i64 x0 8) 7) h rfl rfl (.inl ⟨rfl, rfl⟩)) fun a h=>t_take 7 (bA 21 255) rfl rfl rfl rfl h (hS.sub (.cons mr (.rr (.rr (.zz .ii))))) (v := iV x0) (fun w hS => r_move h rfl) fun a h=>t_take 8 (bA 21 511) rfl rfl rfl rfl h (hS.sub (.cons mr (.rr (.rr (.zz .ii))))) (v := iV (shr .i64 x0 11)) (fun w hS => r_shift (r := shr .i64 x0 11) h rfl rfl (by decide) (.inr ⟨rfl, rfl⟩)) fun a h=>t_take 10 (bA 21 1535) rfl rfl rfl rfl h (hS.sub (.cons mr (.rr (.rr (.zz .ii))))) (v := v_2) (fun w hS => r_move h rfl) fun a h=>t_take 12 (bA 21 5631) rfl rfl rfl rfl h (hS.sub (.cons mr (.rr (.rr (.zz .ii))))) (v := iV x0) (fun w hS => r_move h rfl) fun a h=>t_take 13 (bA 21 13823) rfl rfl rfl rfl h (hS.sub (.cons mr (.rr (.rr (.zz .ii))))) (v := iV (shr .i64 x0 15)) (fun w hS => r_shift (r := shr .i64 x0 15) h rfl rfl (by decide) (.inr ⟨rfl, rfl⟩)) fun a h=>?_
 refine t_take 14 (bA 21 30207) rfl rfl rfl rfl h (hS.sub (.cons mr (.rr (.rr (.zz .ii))))) (v := iV (band .i64 (shr .i64 x0 15) 3)) (fun w hS => r_bits (i := shr .i64 x0 15) (j := 3) (r := band .i64 (shr .i64 x0 15) 3) h rfl rfl (.inl ⟨rfl, rfl⟩)) fun a h=>?_
 obtain ⟨t_3, et_3, H⟩ := bs H
 obtain ⟨t_4, et_4, H⟩ := bs H
 obtain ⟨u_2, eu_2, H⟩ := bs H
 refine h_events [9, 11, 19] (by kernel_rfl) (by simp) ?_
 intro i hi; simp only [List.mem_cons, List.not_mem_nil, or_false] at hi; rcases hi with rfl | rfl | rfl
 ·refine ⟨_, (bA 21 30719), rfl, by kernel_rfl, ?_⟩
  refine s_call h rfl Try.call60 rfl (hocketlaw7_Keys.calls (shr .i64 x0 11) t_3 w0 _ _ _ mr (hS.enter [] (by decide))  et_3) ?_
  rintro v_7 w_14 ⟨_, N_5, rfl, hS', hr_5⟩
  intro a h
  obtain ⟨N_6, hS'', le_5, ln_1⟩ := hS.call [] (by decide) rfl (l' := []) (ow := []) rfl hS'
  replace hS : Sep w0 w_14 [N_6, _, _, _] Z := hS''
  refine wpList_nil <| x_then_n ⟨(hS.sub (.cons le_5 (.rr (.rr (.zz .ii))))), ?_⟩
  refine h_events [11, 19] (by kernel_rfl) (by simp) ?_
  intro i hi; simp only [List.mem_cons, List.not_mem_nil, or_false] at hi; rcases hi with rfl | rfl
  ·refine ⟨_, (bA 21 32767), rfl, by kernel_rfl, ?_⟩
   have hq_3 : Reps Kd.str Mem.no ([([] : List UInt8), ([97] : List UInt8), ([98] : List UInt8), ([97, 98] : List UInt8)] : List (List UInt8)) _ := ((Reps.one (d := Kd.str) (x := ([] : List UInt8)) (show Kd.str.K _ _ [.string ⟨([] : List UInt8).toArray⟩] from rfl)).append ((Reps.one (d := Kd.str) (x := ([97] : List UInt8)) (show Kd.str.K _ _ [.string ⟨([97] : List UInt8).toArray⟩] from rfl)).append ((Reps.one (d := Kd.str) (x := ([98] : List UInt8)) (show Kd.str.K _ _ [.string ⟨([98] : List UInt8).toArray⟩] from rfl)).append ((Reps.one (d := Kd.str) (x := ([97, 98] : List UInt8)) (show Kd.str.K _ _ [.string ⟨([97, 98] : List UInt8).toArray⟩] from rfl)).append (Reps.nil Kd.str _)))))
   refine s_buildSlice h rfl U83 ti9 rfl rfl rfl (.cons rfl (.cons rfl (.cons rfl (.cons rfl .nil)))) rfl rfl rfl hS hq_3 rfl fun w_15 v_8 M_4 hS' ho_3 a h => ?_
   replace hS : Sep w0 w_15 [_, _, _, _, M_4] Z := hS'
   refine wpList_nil <| x_then_n ⟨(hS.sub (.cons le_5 (.rr (.rr (.zz .nn))))), ?_⟩
   refine t_takeE 15 (bA 21 65535) rfl rfl rfl rfl h (hS.sub (.cons le_5 (.rr (.rr (.zz .nn))))) (f := fun ad => .pointer (some ad)) (r_indexO h U83 ti9 rfl rfl rfl ho_3 et_4) ?_
   rintro ad_3 ⟨cs_3, hk_3, hc_6⟩
   obtain rfl := (show cs_3 = [.string ⟨t_4.toArray⟩] from hk_3)
   intro a h
   refine h_state fun GD_1 hGD_1 => ?_
   have hD_80_2097151 : ∀ (a : Act) (w_16 : World), (∃ (v_9 : Value) (g_3 : Nat) (N_7 : Mem), Fr 60 a [(0, iV x0), (2, .pointer (some ⟨g_1, 0, none⟩)), (4, .pointer (some ⟨g_3, 0, none⟩))] ∧ Sep w0 w_16 [N_7, bx g_1 28 [iV 0, iV 0, nS, nS, nS], M_1, Mem.no, M_4, Mem.one g_3 (.cells ([iV (w64 ((Int.tmod (band .i64 x0 31) 13) + 0)), iV (band .i64 (shr .i64 x0 8) 7), v_7, v_2, v_9] : List Value).toArray 28 (0, 0))] Z ∧ N_6.le N_7 ∧ Rd Kd.u8 N_7 v_9 t_4) → GD_1 0 (bA 21 2097151) a w_16 := by
    rintro a w_16 ⟨v_9, g_3, N_7, h, hS, le_6, hr_6⟩
    refine (hGD_1 _ _ _ _).2 <| h_done (by kernel_rfl) ?_
    exact x_then_n (hJ_j_1 (⟨w64 ((Int.tmod (band .i64 x0 31) 13) + 0), band .i64 (shr .i64 x0 8) 7, t_3, t_1, t_4⟩ : api_Cmd) H _ _ ⟨v_7, v_2, v_9, g_3, N_7, (h.keep [0, 2, 4]), (hS.sel [0, 1, 1001, 1002, 5] (by decide)), (le_5.trans le_6), ((hr_5.mono ln_1).mono le_6), ((hr_1.mono lo_1).mono (le_5.trans le_6)), hr_6⟩)
   have hD_80_1048575 : ∀ (a : Act) (w_17 : World), (∃ (v_10 : Value) (g_4 : Nat) (N_8 : Mem), Fr 60 a [(0, iV x0), (2, .pointer (some ⟨g_1, 0, none⟩)), (4, .pointer (some ⟨g_4, 0, none⟩)), (30, .agg ([iV (w64 ((Int.tmod (band .i64 x0 31) 13) + 0)), iV (band .i64 (shr .i64 x0 8) 7), v_7, v_2, v_10] : List Value).toArray)] ∧ Sep w0 w_17 [N_8, bx g_1 28 [iV 0, iV 0, nS, nS, nS], M_1, Mem.no, M_4, bx g_4 28 [iV 0, iV 0, nS, nS, nS]] Z ∧ N_6.le N_8 ∧ Rd Kd.u8 N_8 v_10 t_4) → GD_1 1 (bA 21 1048575) a w_17 := by
    rintro a w_17 ⟨v_10, g_4, N_8, h, hS, le_7, hr_7⟩
    refine (hGD_1 _ _ _ _).2 <| h_events [20] (by kernel_rfl) (by simp) ?_
    intro i hi; simp only [List.mem_cons, List.not_mem_nil, or_false] at hi; rcases hi with rfl
    refine ⟨_, (bA 21 2097151), rfl, by kernel_rfl, ?_⟩
    refine sto 5 h rfl rfl hS rfl ti28 rfl rfl rfl (oa 2 rfl (oc (hr_5.mono ln_1).one (oc (hr_1.mono lo_1).one (oc hr_7.one on0)))) fun w_18 hS' => ?_
    replace hS : Sep w0 w_18 [_, _, _, _, _, Mem.one g_4 (.cells ([iV (w64 ((Int.tmod (band .i64 x0 31) 13) + 0)), iV (band .i64 (shr .i64 x0 8) 7), v_7, v_2, v_10] : List Value).toArray 28 (0, 0))] Z := hS'
    refine wpList_nil <| x_then_n ⟨(hS.sub (.cons (le_5.trans le_7) (.rr (.rr (.zz .nn))))), ?_⟩
    exact (hGD_1 _ _ _ _).1 (hD_80_2097151 _ _ ⟨v_10, g_4, N_8, (h.keep [0, 2, 4]), (hS.sel [0, 1, 2, 1002, 4, 5] (by decide)), le_7, hr_7⟩)
   have hD_80_524287 : ∀ (a : Act) (w_19 : World), (∃ (v_11 : Value) (N_9 : Mem), Fr 60 a [(0, iV x0), (2, .pointer (some ⟨g_1, 0, none⟩)), (30, .agg ([iV (w64 ((Int.tmod (band .i64 x0 31) 13) + 0)), iV (band .i64 (shr .i64 x0 8) 7), v_7, v_2, v_11] : List Value).toArray)] ∧ Sep w0 w_19 [N_9, bx g_1 28 [iV 0, iV 0, nS, nS, nS], M_1, Mem.no, M_4] Z ∧ N_6.le N_9 ∧ Rd Kd.u8 N_9 v_11 t_4) → GD_1 2 (bA 21 524287) a w_19 := by
    rintro a w_19 ⟨v_11, N_9, h, hS, le_8, hr_8⟩
    refine (hGD_1 _ _ _ _).2 <| h_events [19] (by kernel_rfl) (by simp) ?_
    intro i hi; simp only [List.mem_cons, List.not_mem_nil, or_false] at hi; rcases hi with rfl
    refine ⟨_, (bA 21 1048575), rfl, by kernel_rfl, ?_⟩
    refine v_alloc h rfl ti28 hS fun w_20 g_5 hS' a h => ?_
    replace hS : Sep w0 w_20 [_, _, _, _, _, bx g_5 28 [iV 0, iV 0, nS, nS, nS]] Z := hS'
    refine wpList_nil <| x_then_n ⟨(hS.sub (.cons (le_5.trans le_8) (.rr (.rr (.zz .nn))))), ?_⟩
    exact (hGD_1 _ _ _ _).1 (hD_80_1048575 _ _ ⟨v_11, g_5, N_9, (h.keep [0, 2, 4, 30]), (hS.sel [0, 1, 2, 1002, 4, 5] (by decide)), le_8, hr_8⟩)
   have hD_80_655359 : ∀ (a : Act) (w_21 : World), (∃ (g_6 : Nat) (N_10 : Mem), Fr 60 a [(0, iV x0), (2, .pointer (some ⟨g_1, 0, none⟩)), (4, .pointer (some ⟨g_6, 0, none⟩)), (15, iV (w64 ((Int.tmod (band .i64 x0 31) 13) + 0))), (18, iV (band .i64 (shr .i64 x0 8) 7)), (21, v_7), (22, v_2), (28, .string ⟨t_4.toArray⟩)] ∧ Sep w0 w_21 [N_10, bx g_1 28 [iV 0, iV 0, nS, nS, nS], M_1, Mem.no, M_4, bx g_6 28 [iV 0, iV 0, nS, nS, nS]] Z ∧ N_6.le N_10) → GD_1 3 (bA 21 655359) a w_21 := by
    rintro a w_21 ⟨g_6, N_10, h, hS, le_9⟩
    refine (hGD_1 _ _ _ _).2 <| h_events [17] (by kernel_rfl) (by simp) ?_
    intro i hi; simp only [List.mem_cons, List.not_mem_nil, or_false] at hi; rcases hi with rfl
    refine ⟨_, (bA 21 786431), rfl, by kernel_rfl, ?_⟩
    refine s_s2b h rfl U9 U26 U5 rfl (must_some eu_2) hS fun w_22 v_12 M_5 hS' hr_9 a h => ?_
    obtain ⟨N_11, hS'', le_10, lo_2⟩ := Sep.freeze (l := [bx g_1 28 [iV 0, iV 0, nS, nS, nS], M_1, Mem.no, M_4, bx g_6 28 [iV 0, iV 0, nS, nS, nS], M_5]) hS' 5 rfl
    replace hS : Sep w0 w_22 [N_11, _, _, _, _, _, _] Z := hS''
    refine wpList_nil <| x_then_n ⟨(hS.sub (.cons (le_5.trans (le_9.trans le_10)) (.rr (.rr (.zz .nn))))), ?_⟩
    refine t_take 18 (bA 21 1048575) rfl rfl rfl rfl h (hS.sub (.cons (le_5.trans (le_9.trans le_10)) (.rr (.rr (.zz .nn))))) (v := .agg ([iV (w64 ((Int.tmod (band .i64 x0 31) 13) + 0)), iV (band .i64 (shr .i64 x0 8) 7), v_7, v_2, v_12] : List Value).toArray) (fun w hS => r_build h ti28 pl28 rfl (.cons rfl (.cons rfl (.cons (hr_5.mono ln_1).cells (.cons (hr_1.mono lo_1).cells (.cons (hr_9.mono lo_2).cells .nil))))) (cs := [iV (w64 ((Int.tmod (band .i64 x0 31) 13) + 0)), iV (band .i64 (shr .i64 x0 8) 7), v_7, v_2, v_12]) (by kernel_rfl)) fun a h=>?_
    exact (hGD_1 _ _ _ _).1 (hD_80_1048575 _ _ ⟨v_12, g_6, N_11, (h.keep [0, 2, 4, 30]), (hS.sel [0, 1, 2, 1002, 4, 5] (by decide)), (le_9.trans le_10), (hr_9.mono lo_2)⟩)
   have hD_80_131071 : ∀ (a : Act) (w_23 : World), (∃ (N_12 : Mem), Fr 60 a [(0, iV x0), (2, .pointer (some ⟨g_1, 0, none⟩)), (15, iV (w64 ((Int.tmod (band .i64 x0 31) 13) + 0))), (18, iV (band .i64 (shr .i64 x0 8) 7)), (21, v_7), (22, v_2), (28, .string ⟨t_4.toArray⟩)] ∧ Sep w0 w_23 [N_12, bx g_1 28 [iV 0, iV 0, nS, nS, nS], M_1, Mem.no, M_4] Z ∧ N_6.le N_12) → GD_1 4 (bA 21 131071) a w_23 := by
    rintro a w_23 ⟨N_12, h, hS, le_11⟩
    refine (hGD_1 _ _ _ _).2 <| h_events [17, 19] (by kernel_rfl) (by simp) ?_
    intro i hi; simp only [List.mem_cons, List.not_mem_nil, or_false] at hi; rcases hi with rfl | rfl
    ·refine ⟨_, (bA 21 262143), rfl, by kernel_rfl, ?_⟩
     refine s_s2b h rfl U9 U26 U5 rfl (must_some eu_2) hS fun w_24 v_13 M_6 hS' hr_10 a h => ?_
     obtain ⟨N_13, hS'', le_12, lo_3⟩ := Sep.freeze (l := [bx g_1 28 [iV 0, iV 0, nS, nS, nS], M_1, Mem.no, M_4, M_6]) hS' 4 rfl
     replace hS : Sep w0 w_24 [N_13, _, _, _, _, _] Z := hS''
     refine wpList_nil <| x_then_n ⟨(hS.sub (.cons (le_5.trans (le_11.trans le_12)) (.rr (.rr (.zz .nn))))), ?_⟩
     refine t_take 18 (bA 21 524287) rfl rfl rfl rfl h (hS.sub (.cons (le_5.trans (le_11.trans le_12)) (.rr (.rr (.zz .nn))))) (v := .agg ([iV (w64 ((Int.tmod (band .i64 x0 31) 13) + 0)), iV (band .i64 (shr .i64 x0 8) 7), v_7, v_2, v_13] : List Value).toArray) (fun w hS => r_build h ti28 pl28 rfl (.cons rfl (.cons rfl (.cons (hr_5.mono ln_1).cells (.cons (hr_1.mono lo_1).cells (.cons (hr_10.mono lo_3).cells .nil))))) (cs := [iV (w64 ((Int.tmod (band .i64 x0 31) 13) + 0)), iV (band .i64 (shr .i64 x0 8) 7), v_7, v_2, v_13]) (by kernel_rfl)) fun a h=>?_
     exact (hGD_1 _ _ _ _).1 (hD_80_524287 _ _ ⟨v_13, N_13, (h.keep [0, 2, 30]), (hS.sel [0, 1, 2, 1002, 4] (by decide)), (le_11.trans le_12), (hr_10.mono lo_3)⟩)
    ·refine ⟨_, (bA 21 655359), rfl, by kernel_rfl, ?_⟩
     refine v_alloc h rfl ti28 hS fun w_25 g_7 hS' a h => ?_
     replace hS : Sep w0 w_25 [_, _, _, _, _, bx g_7 28 [iV 0, iV 0, nS, nS, nS]] Z := hS'
     refine wpList_nil <| x_then_n ⟨(hS.sub (.cons (le_5.trans le_11) (.rr (.rr (.zz .nn))))), ?_⟩
     exact (hGD_1 _ _ _ _).1 (hD_80_655359 _ _ ⟨g_7, N_12, (h.keep [0, 2, 4, 15, 18, 21, 22, 28]), (hS.sel [0, 1, 2, 1002, 4, 5] (by decide)), le_11⟩)
   have hD_80_589823 : ∀ (a : Act) (w_26 : World), (∃ (g_8 : Nat) (N_14 : Mem), Fr 60 a [(0, iV x0), (2, .pointer (some ⟨g_1, 0, none⟩)), (4, .pointer (some ⟨g_8, 0, none⟩)), (15, iV (w64 ((Int.tmod (band .i64 x0 31) 13) + 0))), (18, iV (band .i64 (shr .i64 x0 8) 7)), (21, v_7), (22, v_2), (27, .pointer (some ad_3))] ∧ Sep w0 w_26 [N_14, bx g_1 28 [iV 0, iV 0, nS, nS, nS], M_1, Mem.no, M_4, bx g_8 28 [iV 0, iV 0, nS, nS, nS]] Z ∧ N_6.le N_14) → GD_1 4 (bA 21 589823) a w_26 := by
    rintro a w_26 ⟨g_8, N_14, h, hS, le_13⟩
    refine (hGD_1 _ _ _ _).2 <| h_events [16] (by kernel_rfl) (by simp) ?_
    intro i hi; simp only [List.mem_cons, List.not_mem_nil, or_false] at hi; rcases hi with rfl
    refine ⟨_, (bA 21 655359), rfl, by kernel_rfl, ?_⟩
    refine s_load h rfl rfl (el_one (o := 0) (fun j c h => Mem.cell_le (hS.own 4) (hc_6 j c h)) U9 rfl rfl) fun a h=>wpList_nil <| x_then_n ⟨(hS.sub (.cons (le_5.trans le_13) (.rr (.rr (.zz .nn))))), ?_⟩
    exact (hGD_1 _ _ _ _).1 (hD_80_655359 _ _ ⟨g_8, N_14, (h.keep [0, 2, 4, 15, 18, 21, 22, 28]), (hS.sel [0, 1, 2, 1002, 4, 5] (by decide)), le_13⟩)
   refine (hGD_1 _ _ _ _).2 <| h_events [16, 19] (by kernel_rfl) (by simp) ?_
   intro i hi; simp only [List.mem_cons, List.not_mem_nil, or_false] at hi; rcases hi with rfl | rfl
   ·refine ⟨_, (bA 21 131071), rfl, by kernel_rfl, ?_⟩
    refine s_load h rfl rfl (el_one (o := 0) (fun j c h => Mem.cell_le (hS.own 4) (hc_6 j c h)) U9 rfl rfl) fun a h=>wpList_nil <| x_then_n ⟨(hS.sub (.cons le_5 (.rr (.rr (.zz .nn))))), ?_⟩
    exact (hGD_1 _ _ _ _).1 (hD_80_131071 _ _ ⟨N_6, (h.keep [0, 2, 15, 18, 21, 22, 28]), (hS.sel [0, 1, 2, 1002, 4] (by decide)), mr⟩)
   ·refine ⟨_, (bA 21 589823), rfl, by kernel_rfl, ?_⟩
    refine v_alloc h rfl ti28 hS fun w_27 g_9 hS' a h => ?_
    replace hS : Sep w0 w_27 [_, _, _, _, _, bx g_9 28 [iV 0, iV 0, nS, nS, nS]] Z := hS'
    refine wpList_nil <| x_then_n ⟨(hS.sub (.cons le_5 (.rr (.rr (.zz .nn))))), ?_⟩
    exact (hGD_1 _ _ _ _).1 (hD_80_589823 _ _ ⟨g_9, N_6, (h.keep [0, 2, 4, 15, 18, 21, 22, 27]), (hS.sel [0, 1, 2, 1002, 4, 5] (by decide)), mr⟩)
  ·refine ⟨_, (bA 21 555007), rfl, by kernel_rfl, ?_⟩
   refine v_alloc h rfl ti28 hS fun w_28 g_10 hS' a h => ?_
   replace hS : Sep w0 w_28 [_, _, _, _, bx g_10 28 [iV 0, iV 0, nS, nS, nS]] Z := hS'
   refine wpList_nil <| x_then_n ⟨(hS.sub (.cons le_5 (.rr (.rr (.zz .nn))))), ?_⟩
   refine h_event 11 (bA 21 557055) rfl (by kernel_rfl) (by kernel_rfl) ?_
   have hq_4 : Reps Kd.str Mem.no ([([] : List UInt8), ([97] : List UInt8), ([98] : List UInt8), ([97, 98] : List UInt8)] : List (List UInt8)) _ := ((Reps.one (d := Kd.str) (x := ([] : List UInt8)) (show Kd.str.K _ _ [.string ⟨([] : List UInt8).toArray⟩] from rfl)).append ((Reps.one (d := Kd.str) (x := ([97] : List UInt8)) (show Kd.str.K _ _ [.string ⟨([97] : List UInt8).toArray⟩] from rfl)).append ((Reps.one (d := Kd.str) (x := ([98] : List UInt8)) (show Kd.str.K _ _ [.string ⟨([98] : List UInt8).toArray⟩] from rfl)).append ((Reps.one (d := Kd.str) (x := ([97, 98] : List UInt8)) (show Kd.str.K _ _ [.string ⟨([97, 98] : List UInt8).toArray⟩] from rfl)).append (Reps.nil Kd.str _)))))
   refine s_buildSlice h rfl U83 ti9 rfl rfl rfl (.cons rfl (.cons rfl (.cons rfl (.cons rfl .nil)))) rfl rfl rfl hS hq_4 rfl fun w_29 v_14 M_7 hS' ho_4 a h => ?_
   replace hS : Sep w0 w_29 [_, _, _, _, _, M_7] Z := hS'
   refine wpList_nil <| x_then_n ⟨(hS.sub (.cons le_5 (.rr (.rr (.zz .nn))))), ?_⟩
   refine t_takeE 15 (bA 21 589823) rfl rfl rfl rfl h (hS.sub (.cons le_5 (.rr (.rr (.zz .nn))))) (f := fun ad => .pointer (some ad)) (r_indexO h U83 ti9 rfl rfl rfl ho_4 et_4) ?_
   rintro ad_4 ⟨cs_4, hk_4, hc_7⟩
   obtain rfl := (show cs_4 = [.string ⟨t_4.toArray⟩] from hk_4)
   intro a h
   refine h_event 16 (bA 21 655359) rfl (by kernel_rfl) (by kernel_rfl) <| s_load h rfl rfl (el_one (o := 0) (fun j c h => Mem.cell_le (hS.own 5) (hc_7 j c h)) U9 rfl rfl) fun a h=>wpList_nil <| x_then_n ⟨(hS.sub (.cons le_5 (.rr (.rr (.zz .nn))))), ?_⟩
   refine h_event 17 (bA 21 786431) rfl (by kernel_rfl) (by kernel_rfl) <| s_s2b h rfl U9 U26 U5 rfl (must_some eu_2) hS fun w_30 v_15 M_8 hS' hr_11 a h => ?_
   obtain ⟨N_15, hS'', le_14, lo_4⟩ := Sep.freeze (l := [bx g_1 28 [iV 0, iV 0, nS, nS, nS], M_1, Mem.no, bx g_10 28 [iV 0, iV 0, nS, nS, nS], M_7, M_8]) hS' 5 rfl
   replace hS : Sep w0 w_30 [N_15, _, _, _, _, _, _] Z := hS''
   refine wpList_nil <| x_then_n ⟨(hS.sub (.cons (le_5.trans le_14) (.rr (.rr (.zz .nn))))), ?_⟩
   refine t_take 18 (bA 21 1048575) rfl rfl rfl rfl h (hS.sub (.cons (le_5.trans le_14) (.rr (.rr (.zz .nn))))) (v := .agg ([iV (w64 ((Int.tmod (band .i64 x0 31) 13) + 0)), iV (band .i64 (shr .i64 x0 8) 7), v_7, v_2, v_15] : List Value).toArray) (fun w hS => r_build h ti28 pl28 rfl (.cons rfl (.cons rfl (.cons (hr_5.mono ln_1).cells (.cons (hr_1.mono lo_1).cells (.cons (hr_11.mono lo_4).cells .nil))))) (cs := [iV (w64 ((Int.tmod (band .i64 x0 31) 13) + 0)), iV (band .i64 (shr .i64 x0 8) 7), v_7, v_2, v_15]) (by kernel_rfl)) fun a h=>h_event 20 (bA 21 2097151) rfl (by kernel_rfl) (by kernel_rfl) ?_
   refine sto 4 h rfl rfl hS rfl ti28 rfl rfl rfl (oa 2 rfl (oc (hr_5.mono ln_1).one (oc (hr_1.mono lo_1).one (oc (hr_11.mono lo_4).one on0)))) fun w_31 hS' => ?_
   replace hS : Sep w0 w_31 [_, _, _, _, Mem.one g_10 (.cells ([iV (w64 ((Int.tmod (band .i64 x0 31) 13) + 0)), iV (band .i64 (shr .i64 x0 8) 7), v_7, v_2, v_15] : List Value).toArray 28 (0, 0)), _, _] Z := hS'
   refine wpList_nil <| x_then_n ⟨(hS.sub (.cons (le_5.trans le_14) (.rr (.rr (.zz .nn))))), ?_⟩
   refine h_done (by kernel_rfl) ?_
   exact x_then_n (hJ_j_1 (⟨w64 ((Int.tmod (band .i64 x0 31) 13) + 0), band .i64 (shr .i64 x0 8) 7, t_3, t_1, t_4⟩ : api_Cmd) H _ _ ⟨v_7, v_2, v_15, g_10, N_15, (h.keep [0, 2, 4]), (hS.sel [0, 1, 1001, 1002, 4] (by decide)), (le_5.trans le_14), ((hr_5.mono ln_1).mono le_14), ((hr_1.mono lo_1).mono (le_5.trans le_14)), (hr_11.mono lo_4)⟩)
 ·refine ⟨_, (bA 21 32255), rfl, by kernel_rfl, ?_⟩
  have hq_5 : Reps Kd.str Mem.no ([([] : List UInt8), ([97] : List UInt8), ([98] : List UInt8), ([97, 98] : List UInt8)] : List (List UInt8)) _ := ((Reps.one (d := Kd.str) (x := ([] : List UInt8)) (show Kd.str.K _ _ [.string ⟨([] : List UInt8).toArray⟩] from rfl)).append ((Reps.one (d := Kd.str) (x := ([97] : List UInt8)) (show Kd.str.K _ _ [.string ⟨([97] : List UInt8).toArray⟩] from rfl)).append ((Reps.one (d := Kd.str) (x := ([98] : List UInt8)) (show Kd.str.K _ _ [.string ⟨([98] : List UInt8).toArray⟩] from rfl)).append ((Reps.one (d := Kd.str) (x := ([97, 98] : List UInt8)) (show Kd.str.K _ _ [.string ⟨([97, 98] : List UInt8).toArray⟩] from rfl)).append (Reps.nil Kd.str _)))))
  refine s_buildSlice h rfl U83 ti9 rfl rfl rfl (.cons rfl (.cons rfl (.cons rfl (.cons rfl .nil)))) rfl rfl rfl hS hq_5 rfl fun w_32 v_16 M_9 hS' ho_5 a h => ?_
  replace hS : Sep w0 w_32 [_, _, _, _, M_9] Z := hS'
  refine wpList_nil <| x_then_n ⟨(hS.sub (.cons mr (.rr (.rr (.zz .nn))))), ?_⟩
  refine t_takeE 15 (bA 21 65023) rfl rfl rfl rfl h (hS.sub (.cons mr (.rr (.rr (.zz .nn))))) (f := fun ad => .pointer (some ad)) (r_indexO h U83 ti9 rfl rfl rfl ho_5 et_4) ?_
  rintro ad_5 ⟨cs_5, hk_5, hc_8⟩
  obtain rfl := (show cs_5 = [.string ⟨t_4.toArray⟩] from hk_5)
  intro a h
  refine h_state fun GD_2 hGD_2 => ?_
  have hD_169_2097151 : ∀ (a : Act) (w_33 : World), (∃ (v_17 : Value) (v_18 : Value) (g_11 : Nat) (N_16 : Mem), Fr 60 a [(0, iV x0), (2, .pointer (some ⟨g_1, 0, none⟩)), (4, .pointer (some ⟨g_11, 0, none⟩))] ∧ Sep w0 w_33 [N_16, bx g_1 28 [iV 0, iV 0, nS, nS, nS], M_1, Mem.no, M_9, Mem.one g_11 (.cells ([iV (w64 ((Int.tmod (band .i64 x0 31) 13) + 0)), iV (band .i64 (shr .i64 x0 8) 7), v_17, v_2, v_18] : List Value).toArray 28 (0, 0))] Z ∧ N_1.le N_16 ∧ Rd Kd.u8 N_16 v_17 t_3 ∧ Rd Kd.u8 N_16 v_18 t_4) → GD_2 0 (bA 21 2097151) a w_33 := by
   rintro a w_33 ⟨v_17, v_18, g_11, N_16, h, hS, le_15, hr_12, hr_13⟩
   refine (hGD_2 _ _ _ _).2 <| h_done (by kernel_rfl) ?_
   exact x_then_n (hJ_j_1 (⟨w64 ((Int.tmod (band .i64 x0 31) 13) + 0), band .i64 (shr .i64 x0 8) 7, t_3, t_1, t_4⟩ : api_Cmd) H _ _ ⟨v_17, v_2, v_18, g_11, N_16, (h.keep [0, 2, 4]), (hS.sel [0, 1, 1001, 1002, 5] (by decide)), le_15, hr_12, ((hr_1.mono lo_1).mono le_15), hr_13⟩)
  have hD_169_1048575 : ∀ (a : Act) (w_34 : World), (∃ (v_19 : Value) (v_20 : Value) (g_12 : Nat) (N_17 : Mem), Fr 60 a [(0, iV x0), (2, .pointer (some ⟨g_1, 0, none⟩)), (4, .pointer (some ⟨g_12, 0, none⟩)), (30, .agg ([iV (w64 ((Int.tmod (band .i64 x0 31) 13) + 0)), iV (band .i64 (shr .i64 x0 8) 7), v_19, v_2, v_20] : List Value).toArray)] ∧ Sep w0 w_34 [N_17, bx g_1 28 [iV 0, iV 0, nS, nS, nS], M_1, Mem.no, M_9, bx g_12 28 [iV 0, iV 0, nS, nS, nS]] Z ∧ N_1.le N_17 ∧ Rd Kd.u8 N_17 v_19 t_3 ∧ Rd Kd.u8 N_17 v_20 t_4) → GD_2 1 (bA 21 1048575) a w_34 := by
   rintro a w_34 ⟨v_19, v_20, g_12, N_17, h, hS, le_16, hr_14, hr_15⟩
   refine (hGD_2 _ _ _ _).2 <| h_events [20] (by kernel_rfl) (by simp) ?_
   intro i hi; simp only [List.mem_cons, List.not_mem_nil, or_false] at hi; rcases hi with rfl
   refine ⟨_, (bA 21 2097151), rfl, by kernel_rfl, ?_⟩
   refine sto 5 h rfl rfl hS rfl ti28 rfl rfl rfl (oa 2 rfl (oc hr_14.one (oc (hr_1.mono lo_1).one (oc hr_15.one on0)))) fun w_35 hS' => ?_
   replace hS : Sep w0 w_35 [_, _, _, _, _, Mem.one g_12 (.cells ([iV (w64 ((Int.tmod (band .i64 x0 31) 13) + 0)), iV (band .i64 (shr .i64 x0 8) 7), v_19, v_2, v_20] : List Value).toArray 28 (0, 0))] Z := hS'
   refine wpList_nil <| x_then_n ⟨(hS.sub (.cons le_16 (.rr (.rr (.zz .nn))))), ?_⟩
   exact (hGD_2 _ _ _ _).1 (hD_169_2097151 _ _ ⟨v_19, v_20, g_12, N_17, (h.keep [0, 2, 4]), (hS.sel [0, 1, 2, 1002, 4, 5] (by decide)), le_16, hr_14, hr_15⟩)
  have hD_169_524287 : ∀ (a : Act) (w_36 : World), (∃ (v_21 : Value) (v_22 : Value) (N_18 : Mem), Fr 60 a [(0, iV x0), (2, .pointer (some ⟨g_1, 0, none⟩)), (30, .agg ([iV (w64 ((Int.tmod (band .i64 x0 31) 13) + 0)), iV (band .i64 (shr .i64 x0 8) 7), v_21, v_2, v_22] : List Value).toArray)] ∧ Sep w0 w_36 [N_18, bx g_1 28 [iV 0, iV 0, nS, nS, nS], M_1, Mem.no, M_9] Z ∧ N_1.le N_18 ∧ Rd Kd.u8 N_18 v_21 t_3 ∧ Rd Kd.u8 N_18 v_22 t_4) → GD_2 2 (bA 21 524287) a w_36 := by
   rintro a w_36 ⟨v_21, v_22, N_18, h, hS, le_17, hr_16, hr_17⟩
   refine (hGD_2 _ _ _ _).2 <| h_events [19] (by kernel_rfl) (by simp) ?_
   intro i hi; simp only [List.mem_cons, List.not_mem_nil, or_false] at hi; rcases hi with rfl
   refine ⟨_, (bA 21 1048575), rfl, by kernel_rfl, ?_⟩
   refine v_alloc h rfl ti28 hS fun w_37 g_13 hS' a h => ?_
   replace hS : Sep w0 w_37 [_, _, _, _, _, bx g_13 28 [iV 0, iV 0, nS, nS, nS]] Z := hS'
   refine wpList_nil <| x_then_n ⟨(hS.sub (.cons le_17 (.rr (.rr (.zz .nn))))), ?_⟩
   exact (hGD_2 _ _ _ _).1 (hD_169_1048575 _ _ ⟨v_21, v_22, g_13, N_18, (h.keep [0, 2, 4, 30]), (hS.sel [0, 1, 2, 1002, 4, 5] (by decide)), le_17, hr_16, hr_17⟩)
  have hD_169_655359 : ∀ (a : Act) (w_38 : World), (∃ (v_23 : Value) (g_14 : Nat) (N_19 : Mem), Fr 60 a [(0, iV x0), (2, .pointer (some ⟨g_1, 0, none⟩)), (4, .pointer (some ⟨g_14, 0, none⟩)), (15, iV (w64 ((Int.tmod (band .i64 x0 31) 13) + 0))), (18, iV (band .i64 (shr .i64 x0 8) 7)), (21, v_23), (22, v_2), (28, .string ⟨t_4.toArray⟩)] ∧ Sep w0 w_38 [N_19, bx g_1 28 [iV 0, iV 0, nS, nS, nS], M_1, Mem.no, M_9, bx g_14 28 [iV 0, iV 0, nS, nS, nS]] Z ∧ N_1.le N_19 ∧ Rd Kd.u8 N_19 v_23 t_3) → GD_2 3 (bA 21 655359) a w_38 := by
   rintro a w_38 ⟨v_23, g_14, N_19, h, hS, le_18, hr_18⟩
   refine (hGD_2 _ _ _ _).2 <| h_events [17] (by kernel_rfl) (by simp) ?_
   intro i hi; simp only [List.mem_cons, List.not_mem_nil, or_false] at hi; rcases hi with rfl
   refine ⟨_, (bA 21 786431), rfl, by kernel_rfl, ?_⟩
   refine s_s2b h rfl U9 U26 U5 rfl (must_some eu_2) hS fun w_39 v_24 M_10 hS' hr_19 a h => ?_
   obtain ⟨N_20, hS'', le_19, lo_5⟩ := Sep.freeze (l := [bx g_1 28 [iV 0, iV 0, nS, nS, nS], M_1, Mem.no, M_9, bx g_14 28 [iV 0, iV 0, nS, nS, nS], M_10]) hS' 5 rfl
   replace hS : Sep w0 w_39 [N_20, _, _, _, _, _, _] Z := hS''
   refine wpList_nil <| x_then_n ⟨(hS.sub (.cons (le_18.trans le_19) (.rr (.rr (.zz .nn))))), ?_⟩
   refine t_take 18 (bA 21 1048575) rfl rfl rfl rfl h (hS.sub (.cons (le_18.trans le_19) (.rr (.rr (.zz .nn))))) (v := .agg ([iV (w64 ((Int.tmod (band .i64 x0 31) 13) + 0)), iV (band .i64 (shr .i64 x0 8) 7), v_23, v_2, v_24] : List Value).toArray) (fun w hS => r_build h ti28 pl28 rfl (.cons rfl (.cons rfl (.cons hr_18.cells (.cons (hr_1.mono lo_1).cells (.cons (hr_19.mono lo_5).cells .nil))))) (cs := [iV (w64 ((Int.tmod (band .i64 x0 31) 13) + 0)), iV (band .i64 (shr .i64 x0 8) 7), v_23, v_2, v_24]) (by kernel_rfl)) fun a h=>?_
   exact (hGD_2 _ _ _ _).1 (hD_169_1048575 _ _ ⟨v_23, v_24, g_14, N_20, (h.keep [0, 2, 4, 30]), (hS.sel [0, 1, 2, 1002, 4, 5] (by decide)), (le_18.trans le_19), (hr_18.mono le_19), (hr_19.mono lo_5)⟩)
  have hD_169_785919 : ∀ (a : Act) (w_40 : World), (∃ (v_25 : Value) (g_15 : Nat) (N_21 : Mem), Fr 60 a [(0, iV x0), (2, .pointer (some ⟨g_1, 0, none⟩)), (4, .pointer (some ⟨g_15, 0, none⟩)), (15, iV (w64 ((Int.tmod (band .i64 x0 31) 13) + 0))), (18, iV (band .i64 (shr .i64 x0 8) 7)), (20, iV (shr .i64 x0 11)), (22, v_2), (29, v_25)] ∧ Sep w0 w_40 [N_21, bx g_1 28 [iV 0, iV 0, nS, nS, nS], M_1, Mem.no, M_9, bx g_15 28 [iV 0, iV 0, nS, nS, nS]] Z ∧ N_1.le N_21 ∧ Rd Kd.u8 N_21 v_25 t_4) → GD_2 3 (bA 21 785919) a w_40 := by
   rintro a w_40 ⟨v_25, g_15, N_21, h, hS, le_20, hr_20⟩
   refine (hGD_2 _ _ _ _).2 <| h_events [9] (by kernel_rfl) (by simp) ?_
   intro i hi; simp only [List.mem_cons, List.not_mem_nil, or_false] at hi; rcases hi with rfl
   refine ⟨_, (bA 21 786431), rfl, by kernel_rfl, ?_⟩
   refine s_call h rfl Try.call60 rfl (hocketlaw7_Keys.calls (shr .i64 x0 11) t_3 w0 _ _ _ mr (hS.enter [] (by decide))  et_3) ?_
   rintro v_26 w_41 ⟨_, N_22, rfl, hS', hr_21⟩
   intro a h
   obtain ⟨N_23, hS'', le_21, ln_2⟩ := hS.call [] (by decide) rfl (l' := []) (ow := []) rfl hS'
   replace hS : Sep w0 w_41 [N_23, _, _, _, _, _] Z := hS''
   refine wpList_nil <| x_then_n ⟨(hS.sub (.cons (le_20.trans le_21) (.rr (.rr (.zz .nn))))), ?_⟩
   refine t_take 18 (bA 21 1048575) rfl rfl rfl rfl h (hS.sub (.cons (le_20.trans le_21) (.rr (.rr (.zz .nn))))) (v := .agg ([iV (w64 ((Int.tmod (band .i64 x0 31) 13) + 0)), iV (band .i64 (shr .i64 x0 8) 7), v_26, v_2, v_25] : List Value).toArray) (fun w hS => r_build h ti28 pl28 rfl (.cons rfl (.cons rfl (.cons (hr_21.mono ln_2).cells (.cons (hr_1.mono lo_1).cells (.cons hr_20.cells .nil))))) (cs := [iV (w64 ((Int.tmod (band .i64 x0 31) 13) + 0)), iV (band .i64 (shr .i64 x0 8) 7), v_26, v_2, v_25]) (by kernel_rfl)) fun a h=>?_
   exact (hGD_2 _ _ _ _).1 (hD_169_1048575 _ _ ⟨v_26, v_25, g_15, N_23, (h.keep [0, 2, 4, 30]), (hS.sel [0, 1, 2, 1002, 4, 5] (by decide)), (le_20.trans le_21), (hr_21.mono ln_2), (hr_20.mono le_21)⟩)
  have hD_169_131071 : ∀ (a : Act) (w_42 : World), (∃ (v_27 : Value) (N_24 : Mem), Fr 60 a [(0, iV x0), (2, .pointer (some ⟨g_1, 0, none⟩)), (15, iV (w64 ((Int.tmod (band .i64 x0 31) 13) + 0))), (18, iV (band .i64 (shr .i64 x0 8) 7)), (21, v_27), (22, v_2), (28, .string ⟨t_4.toArray⟩)] ∧ Sep w0 w_42 [N_24, bx g_1 28 [iV 0, iV 0, nS, nS, nS], M_1, Mem.no, M_9] Z ∧ N_1.le N_24 ∧ Rd Kd.u8 N_24 v_27 t_3) → GD_2 4 (bA 21 131071) a w_42 := by
   rintro a w_42 ⟨v_27, N_24, h, hS, le_22, hr_22⟩
   refine (hGD_2 _ _ _ _).2 <| h_events [17, 19] (by kernel_rfl) (by simp) ?_
   intro i hi; simp only [List.mem_cons, List.not_mem_nil, or_false] at hi; rcases hi with rfl | rfl
   ·refine ⟨_, (bA 21 262143), rfl, by kernel_rfl, ?_⟩
    refine s_s2b h rfl U9 U26 U5 rfl (must_some eu_2) hS fun w_43 v_28 M_11 hS' hr_23 a h => ?_
    obtain ⟨N_25, hS'', le_23, lo_6⟩ := Sep.freeze (l := [bx g_1 28 [iV 0, iV 0, nS, nS, nS], M_1, Mem.no, M_9, M_11]) hS' 4 rfl
    replace hS : Sep w0 w_43 [N_25, _, _, _, _, _] Z := hS''
    refine wpList_nil <| x_then_n ⟨(hS.sub (.cons (le_22.trans le_23) (.rr (.rr (.zz .nn))))), ?_⟩
    refine t_take 18 (bA 21 524287) rfl rfl rfl rfl h (hS.sub (.cons (le_22.trans le_23) (.rr (.rr (.zz .nn))))) (v := .agg ([iV (w64 ((Int.tmod (band .i64 x0 31) 13) + 0)), iV (band .i64 (shr .i64 x0 8) 7), v_27, v_2, v_28] : List Value).toArray) (fun w hS => r_build h ti28 pl28 rfl (.cons rfl (.cons rfl (.cons hr_22.cells (.cons (hr_1.mono lo_1).cells (.cons (hr_23.mono lo_6).cells .nil))))) (cs := [iV (w64 ((Int.tmod (band .i64 x0 31) 13) + 0)), iV (band .i64 (shr .i64 x0 8) 7), v_27, v_2, v_28]) (by kernel_rfl)) fun a h=>?_
    exact (hGD_2 _ _ _ _).1 (hD_169_524287 _ _ ⟨v_27, v_28, N_25, (h.keep [0, 2, 30]), (hS.sel [0, 1, 2, 1002, 4] (by decide)), (le_22.trans le_23), (hr_22.mono le_23), (hr_23.mono lo_6)⟩)
   ·refine ⟨_, (bA 21 655359), rfl, by kernel_rfl, ?_⟩
    refine v_alloc h rfl ti28 hS fun w_44 g_16 hS' a h => ?_
    replace hS : Sep w0 w_44 [_, _, _, _, _, bx g_16 28 [iV 0, iV 0, nS, nS, nS]] Z := hS'
    refine wpList_nil <| x_then_n ⟨(hS.sub (.cons le_22 (.rr (.rr (.zz .nn))))), ?_⟩
    exact (hGD_2 _ _ _ _).1 (hD_169_655359 _ _ ⟨v_27, g_16, N_24, (h.keep [0, 2, 4, 15, 18, 21, 22, 28]), (hS.sel [0, 1, 2, 1002, 4, 5] (by decide)), le_22, hr_22⟩)
  have hD_169_589823 : ∀ (a : Act) (w_45 : World), (∃ (v_29 : Value) (g_17 : Nat) (N_26 : Mem), Fr 60 a [(0, iV x0), (2, .pointer (some ⟨g_1, 0, none⟩)), (4, .pointer (some ⟨g_17, 0, none⟩)), (15, iV (w64 ((Int.tmod (band .i64 x0 31) 13) + 0))), (18, iV (band .i64 (shr .i64 x0 8) 7)), (21, v_29), (22, v_2), (27, .pointer (some ad_5))] ∧ Sep w0 w_45 [N_26, bx g_1 28 [iV 0, iV 0, nS, nS, nS], M_1, Mem.no, M_9, bx g_17 28 [iV 0, iV 0, nS, nS, nS]] Z ∧ N_1.le N_26 ∧ Rd Kd.u8 N_26 v_29 t_3) → GD_2 4 (bA 21 589823) a w_45 := by
   rintro a w_45 ⟨v_29, g_17, N_26, h, hS, le_24, hr_24⟩
   refine (hGD_2 _ _ _ _).2 <| h_events [16] (by kernel_rfl) (by simp) ?_
   intro i hi; simp only [List.mem_cons, List.not_mem_nil, or_false] at hi; rcases hi with rfl
   refine ⟨_, (bA 21 655359), rfl, by kernel_rfl, ?_⟩
   refine s_load h rfl rfl (el_one (o := 0) (fun j c h => Mem.cell_le (hS.own 4) (hc_8 j c h)) U9 rfl rfl) fun a h=>wpList_nil <| x_then_n ⟨(hS.sub (.cons le_24 (.rr (.rr (.zz .nn))))), ?_⟩
   exact (hGD_2 _ _ _ _).1 (hD_169_655359 _ _ ⟨v_29, g_17, N_26, (h.keep [0, 2, 4, 15, 18, 21, 22, 28]), (hS.sel [0, 1, 2, 1002, 4, 5] (by decide)), le_24, hr_24⟩)
  have hD_169_261631 : ∀ (a : Act) (w_46 : World), (∃ (v_30 : Value) (N_27 : Mem), Fr 60 a [(0, iV x0), (2, .pointer (some ⟨g_1, 0, none⟩)), (15, iV (w64 ((Int.tmod (band .i64 x0 31) 13) + 0))), (18, iV (band .i64 (shr .i64 x0 8) 7)), (20, iV (shr .i64 x0 11)), (22, v_2), (29, v_30)] ∧ Sep w0 w_46 [N_27, bx g_1 28 [iV 0, iV 0, nS, nS, nS], M_1, Mem.no, M_9] Z ∧ N_1.le N_27 ∧ Rd Kd.u8 N_27 v_30 t_4) → GD_2 4 (bA 21 261631) a w_46 := by
   rintro a w_46 ⟨v_30, N_27, h, hS, le_25, hr_25⟩
   refine (hGD_2 _ _ _ _).2 <| h_events [9, 19] (by kernel_rfl) (by simp) ?_
   intro i hi; simp only [List.mem_cons, List.not_mem_nil, or_false] at hi; rcases hi with rfl | rfl
   ·refine ⟨_, (bA 21 262143), rfl, by kernel_rfl, ?_⟩
    refine s_call h rfl Try.call60 rfl (hocketlaw7_Keys.calls (shr .i64 x0 11) t_3 w0 _ _ _ mr (hS.enter [] (by decide))  et_3) ?_
    rintro v_31 w_47 ⟨_, N_28, rfl, hS', hr_26⟩
    intro a h
    obtain ⟨N_29, hS'', le_26, ln_3⟩ := hS.call [] (by decide) rfl (l' := []) (ow := []) rfl hS'
    replace hS : Sep w0 w_47 [N_29, _, _, _, _] Z := hS''
    refine wpList_nil <| x_then_n ⟨(hS.sub (.cons (le_25.trans le_26) (.rr (.rr (.zz .nn))))), ?_⟩
    refine t_take 18 (bA 21 524287) rfl rfl rfl rfl h (hS.sub (.cons (le_25.trans le_26) (.rr (.rr (.zz .nn))))) (v := .agg ([iV (w64 ((Int.tmod (band .i64 x0 31) 13) + 0)), iV (band .i64 (shr .i64 x0 8) 7), v_31, v_2, v_30] : List Value).toArray) (fun w hS => r_build h ti28 pl28 rfl (.cons rfl (.cons rfl (.cons (hr_26.mono ln_3).cells (.cons (hr_1.mono lo_1).cells (.cons hr_25.cells .nil))))) (cs := [iV (w64 ((Int.tmod (band .i64 x0 31) 13) + 0)), iV (band .i64 (shr .i64 x0 8) 7), v_31, v_2, v_30]) (by kernel_rfl)) fun a h=>?_
    exact (hGD_2 _ _ _ _).1 (hD_169_524287 _ _ ⟨v_31, v_30, N_29, (h.keep [0, 2, 30]), (hS.sel [0, 1, 2, 1002, 4] (by decide)), (le_25.trans le_26), (hr_26.mono ln_3), (hr_25.mono le_26)⟩)
   ·refine ⟨_, (bA 21 785919), rfl, by kernel_rfl, ?_⟩
    refine v_alloc h rfl ti28 hS fun w_48 g_18 hS' a h => ?_
    replace hS : Sep w0 w_48 [_, _, _, _, _, bx g_18 28 [iV 0, iV 0, nS, nS, nS]] Z := hS'
    refine wpList_nil <| x_then_n ⟨(hS.sub (.cons le_25 (.rr (.rr (.zz .nn))))), ?_⟩
    exact (hGD_2 _ _ _ _).1 (hD_169_785919 _ _ ⟨v_30, g_18, N_27, (h.keep [0, 2, 4, 15, 18, 20, 22, 29]), (hS.sel [0, 1, 2, 1002, 4, 5] (by decide)), le_25, hr_25⟩)
  have hD_169_654847 : ∀ (a : Act) (w_49 : World), (∃ (g_19 : Nat) (N_30 : Mem), Fr 60 a [(0, iV x0), (2, .pointer (some ⟨g_1, 0, none⟩)), (4, .pointer (some ⟨g_19, 0, none⟩)), (15, iV (w64 ((Int.tmod (band .i64 x0 31) 13) + 0))), (18, iV (band .i64 (shr .i64 x0 8) 7)), (20, iV (shr .i64 x0 11)), (22, v_2), (28, .string ⟨t_4.toArray⟩)] ∧ Sep w0 w_49 [N_30, bx g_1 28 [iV 0, iV 0, nS, nS, nS], M_1, Mem.no, M_9, bx g_19 28 [iV 0, iV 0, nS, nS, nS]] Z ∧ N_1.le N_30) → GD_2 4 (bA 21 654847) a w_49 := by
   rintro a w_49 ⟨g_19, N_30, h, hS, le_27⟩
   refine (hGD_2 _ _ _ _).2 <| h_events [9, 17] (by kernel_rfl) (by simp) ?_
   intro i hi; simp only [List.mem_cons, List.not_mem_nil, or_false] at hi; rcases hi with rfl | rfl
   ·refine ⟨_, (bA 21 655359), rfl, by kernel_rfl, ?_⟩
    refine s_call h rfl Try.call60 rfl (hocketlaw7_Keys.calls (shr .i64 x0 11) t_3 w0 _ _ _ mr (hS.enter [] (by decide))  et_3) ?_
    rintro v_32 w_50 ⟨_, N_31, rfl, hS', hr_27⟩
    intro a h
    obtain ⟨N_32, hS'', le_28, ln_4⟩ := hS.call [] (by decide) rfl (l' := []) (ow := []) rfl hS'
    replace hS : Sep w0 w_50 [N_32, _, _, _, _, _] Z := hS''
    refine wpList_nil <| x_then_n ⟨(hS.sub (.cons (le_27.trans le_28) (.rr (.rr (.zz .nn))))), ?_⟩
    exact (hGD_2 _ _ _ _).1 (hD_169_655359 _ _ ⟨v_32, g_19, N_32, (h.keep [0, 2, 4, 15, 18, 21, 22, 28]), (hS.sel [0, 1, 2, 1002, 4, 5] (by decide)), (le_27.trans le_28), (hr_27.mono ln_4)⟩)
   ·refine ⟨_, (bA 21 785919), rfl, by kernel_rfl, ?_⟩
    refine s_s2b h rfl U9 U26 U5 rfl (must_some eu_2) hS fun w_51 v_33 M_12 hS' hr_28 a h => ?_
    obtain ⟨N_33, hS'', le_29, lo_7⟩ := Sep.freeze (l := [bx g_1 28 [iV 0, iV 0, nS, nS, nS], M_1, Mem.no, M_9, bx g_19 28 [iV 0, iV 0, nS, nS, nS], M_12]) hS' 5 rfl
    replace hS : Sep w0 w_51 [N_33, _, _, _, _, _, _] Z := hS''
    refine wpList_nil <| x_then_n ⟨(hS.sub (.cons (le_27.trans le_29) (.rr (.rr (.zz .nn))))), ?_⟩
    exact (hGD_2 _ _ _ _).1 (hD_169_785919 _ _ ⟨v_33, g_19, N_33, (h.keep [0, 2, 4, 15, 18, 20, 22, 29]), (hS.sel [0, 1, 2, 1002, 4, 5] (by decide)), (le_27.trans le_29), (hr_28.mono lo_7)⟩)
  have hD_169_65535 : ∀ (a : Act) (w_52 : World), (∃ (v_34 : Value) (N_34 : Mem), Fr 60 a [(0, iV x0), (2, .pointer (some ⟨g_1, 0, none⟩)), (15, iV (w64 ((Int.tmod (band .i64 x0 31) 13) + 0))), (18, iV (band .i64 (shr .i64 x0 8) 7)), (21, v_34), (22, v_2), (27, .pointer (some ad_5))] ∧ Sep w0 w_52 [N_34, bx g_1 28 [iV 0, iV 0, nS, nS, nS], M_1, Mem.no, M_9] Z ∧ N_1.le N_34 ∧ Rd Kd.u8 N_34 v_34 t_3) → GD_2 5 (bA 21 65535) a w_52 := by
   rintro a w_52 ⟨v_34, N_34, h, hS, le_30, hr_29⟩
   refine (hGD_2 _ _ _ _).2 <| h_events [16, 19] (by kernel_rfl) (by simp) ?_
   intro i hi; simp only [List.mem_cons, List.not_mem_nil, or_false] at hi; rcases hi with rfl | rfl
   ·refine ⟨_, (bA 21 131071), rfl, by kernel_rfl, ?_⟩
    refine s_load h rfl rfl (el_one (o := 0) (fun j c h => Mem.cell_le (hS.own 4) (hc_8 j c h)) U9 rfl rfl) fun a h=>wpList_nil <| x_then_n ⟨(hS.sub (.cons le_30 (.rr (.rr (.zz .nn))))), ?_⟩
    exact (hGD_2 _ _ _ _).1 (hD_169_131071 _ _ ⟨v_34, N_34, (h.keep [0, 2, 15, 18, 21, 22, 28]), (hS.sel [0, 1, 2, 1002, 4] (by decide)), le_30, hr_29⟩)
   ·refine ⟨_, (bA 21 589823), rfl, by kernel_rfl, ?_⟩
    refine v_alloc h rfl ti28 hS fun w_53 g_20 hS' a h => ?_
    replace hS : Sep w0 w_53 [_, _, _, _, _, bx g_20 28 [iV 0, iV 0, nS, nS, nS]] Z := hS'
    refine wpList_nil <| x_then_n ⟨(hS.sub (.cons le_30 (.rr (.rr (.zz .nn))))), ?_⟩
    exact (hGD_2 _ _ _ _).1 (hD_169_589823 _ _ ⟨v_34, g_20, N_34, (h.keep [0, 2, 4, 15, 18, 21, 22, 27]), (hS.sel [0, 1, 2, 1002, 4, 5] (by decide)), le_30, hr_29⟩)
  have hD_169_130559 : ∀ (a : Act) (w_54 : World), (∃ (N_35 : Mem), Fr 60 a [(0, iV x0), (2, .pointer (some ⟨g_1, 0, none⟩)), (15, iV (w64 ((Int.tmod (band .i64 x0 31) 13) + 0))), (18, iV (band .i64 (shr .i64 x0 8) 7)), (20, iV (shr .i64 x0 11)), (22, v_2), (28, .string ⟨t_4.toArray⟩)] ∧ Sep w0 w_54 [N_35, bx g_1 28 [iV 0, iV 0, nS, nS, nS], M_1, Mem.no, M_9] Z ∧ N_1.le N_35) → GD_2 5 (bA 21 130559) a w_54 := by
   rintro a w_54 ⟨N_35, h, hS, le_31⟩
   refine (hGD_2 _ _ _ _).2 <| h_events [9, 17, 19] (by kernel_rfl) (by simp) ?_
   intro i hi; simp only [List.mem_cons, List.not_mem_nil, or_false] at hi; rcases hi with rfl | rfl | rfl
   ·refine ⟨_, (bA 21 131071), rfl, by kernel_rfl, ?_⟩
    refine s_call h rfl Try.call60 rfl (hocketlaw7_Keys.calls (shr .i64 x0 11) t_3 w0 _ _ _ mr (hS.enter [] (by decide))  et_3) ?_
    rintro v_35 w_55 ⟨_, N_36, rfl, hS', hr_30⟩
    intro a h
    obtain ⟨N_37, hS'', le_32, ln_5⟩ := hS.call [] (by decide) rfl (l' := []) (ow := []) rfl hS'
    replace hS : Sep w0 w_55 [N_37, _, _, _, _] Z := hS''
    refine wpList_nil <| x_then_n ⟨(hS.sub (.cons (le_31.trans le_32) (.rr (.rr (.zz .nn))))), ?_⟩
    exact (hGD_2 _ _ _ _).1 (hD_169_131071 _ _ ⟨v_35, N_37, (h.keep [0, 2, 15, 18, 21, 22, 28]), (hS.sel [0, 1, 2, 1002, 4] (by decide)), (le_31.trans le_32), (hr_30.mono ln_5)⟩)
   ·refine ⟨_, (bA 21 261631), rfl, by kernel_rfl, ?_⟩
    refine s_s2b h rfl U9 U26 U5 rfl (must_some eu_2) hS fun w_56 v_36 M_13 hS' hr_31 a h => ?_
    obtain ⟨N_38, hS'', le_33, lo_8⟩ := Sep.freeze (l := [bx g_1 28 [iV 0, iV 0, nS, nS, nS], M_1, Mem.no, M_9, M_13]) hS' 4 rfl
    replace hS : Sep w0 w_56 [N_38, _, _, _, _, _] Z := hS''
    refine wpList_nil <| x_then_n ⟨(hS.sub (.cons (le_31.trans le_33) (.rr (.rr (.zz .nn))))), ?_⟩
    exact (hGD_2 _ _ _ _).1 (hD_169_261631 _ _ ⟨v_36, N_38, (h.keep [0, 2, 15, 18, 20, 22, 29]), (hS.sel [0, 1, 2, 1002, 4] (by decide)), (le_31.trans le_33), (hr_31.mono lo_8)⟩)
   ·refine ⟨_, (bA 21 654847), rfl, by kernel_rfl, ?_⟩
    refine v_alloc h rfl ti28 hS fun w_57 g_21 hS' a h => ?_
    replace hS : Sep w0 w_57 [_, _, _, _, _, bx g_21 28 [iV 0, iV 0, nS, nS, nS]] Z := hS'
    refine wpList_nil <| x_then_n ⟨(hS.sub (.cons le_31 (.rr (.rr (.zz .nn))))), ?_⟩
    exact (hGD_2 _ _ _ _).1 (hD_169_654847 _ _ ⟨g_21, N_35, (h.keep [0, 2, 4, 15, 18, 20, 22, 28]), (hS.sel [0, 1, 2, 1002, 4, 5] (by decide)), le_31⟩)
  have hD_169_589311 : ∀ (a : Act) (w_58 : World), (∃ (g_22 : Nat) (N_39 : Mem), Fr 60 a [(0, iV x0), (2, .pointer (some ⟨g_1, 0, none⟩)), (4, .pointer (some ⟨g_22, 0, none⟩)), (15, iV (w64 ((Int.tmod (band .i64 x0 31) 13) + 0))), (18, iV (band .i64 (shr .i64 x0 8) 7)), (20, iV (shr .i64 x0 11)), (22, v_2), (27, .pointer (some ad_5))] ∧ Sep w0 w_58 [N_39, bx g_1 28 [iV 0, iV 0, nS, nS, nS], M_1, Mem.no, M_9, bx g_22 28 [iV 0, iV 0, nS, nS, nS]] Z ∧ N_1.le N_39) → GD_2 5 (bA 21 589311) a w_58 := by
   rintro a w_58 ⟨g_22, N_39, h, hS, le_34⟩
   refine (hGD_2 _ _ _ _).2 <| h_events [9, 16] (by kernel_rfl) (by simp) ?_
   intro i hi; simp only [List.mem_cons, List.not_mem_nil, or_false] at hi; rcases hi with rfl | rfl
   ·refine ⟨_, (bA 21 589823), rfl, by kernel_rfl, ?_⟩
    refine s_call h rfl Try.call60 rfl (hocketlaw7_Keys.calls (shr .i64 x0 11) t_3 w0 _ _ _ mr (hS.enter [] (by decide))  et_3) ?_
    rintro v_37 w_59 ⟨_, N_40, rfl, hS', hr_32⟩
    intro a h
    obtain ⟨N_41, hS'', le_35, ln_6⟩ := hS.call [] (by decide) rfl (l' := []) (ow := []) rfl hS'
    replace hS : Sep w0 w_59 [N_41, _, _, _, _, _] Z := hS''
    refine wpList_nil <| x_then_n ⟨(hS.sub (.cons (le_34.trans le_35) (.rr (.rr (.zz .nn))))), ?_⟩
    exact (hGD_2 _ _ _ _).1 (hD_169_589823 _ _ ⟨v_37, g_22, N_41, (h.keep [0, 2, 4, 15, 18, 21, 22, 27]), (hS.sel [0, 1, 2, 1002, 4, 5] (by decide)), (le_34.trans le_35), (hr_32.mono ln_6)⟩)
   ·refine ⟨_, (bA 21 654847), rfl, by kernel_rfl, ?_⟩
    refine s_load h rfl rfl (el_one (o := 0) (fun j c h => Mem.cell_le (hS.own 4) (hc_8 j c h)) U9 rfl rfl) fun a h=>wpList_nil <| x_then_n ⟨(hS.sub (.cons le_34 (.rr (.rr (.zz .nn))))), ?_⟩
    exact (hGD_2 _ _ _ _).1 (hD_169_654847 _ _ ⟨g_22, N_39, (h.keep [0, 2, 4, 15, 18, 20, 22, 28]), (hS.sel [0, 1, 2, 1002, 4, 5] (by decide)), le_34⟩)
  refine (hGD_2 _ _ _ _).2 <| h_events [9, 16, 19] (by kernel_rfl) (by simp) ?_
  intro i hi; simp only [List.mem_cons, List.not_mem_nil, or_false] at hi; rcases hi with rfl | rfl | rfl
  ·refine ⟨_, (bA 21 65535), rfl, by kernel_rfl, ?_⟩
   refine s_call h rfl Try.call60 rfl (hocketlaw7_Keys.calls (shr .i64 x0 11) t_3 w0 _ _ _ mr (hS.enter [] (by decide))  et_3) ?_
   rintro v_38 w_60 ⟨_, N_42, rfl, hS', hr_33⟩
   intro a h
   obtain ⟨N_43, hS'', le_36, ln_7⟩ := hS.call [] (by decide) rfl (l' := []) (ow := []) rfl hS'
   replace hS : Sep w0 w_60 [N_43, _, _, _, _] Z := hS''
   refine wpList_nil <| x_then_n ⟨(hS.sub (.cons le_36 (.rr (.rr (.zz .nn))))), ?_⟩
   exact (hGD_2 _ _ _ _).1 (hD_169_65535 _ _ ⟨v_38, N_43, (h.keep [0, 2, 15, 18, 21, 22, 27]), (hS.sel [0, 1, 2, 1002, 4] (by decide)), le_36, (hr_33.mono ln_7)⟩)
  ·refine ⟨_, (bA 21 130559), rfl, by kernel_rfl, ?_⟩
   refine s_load h rfl rfl (el_one (o := 0) (fun j c h => Mem.cell_le (hS.own 4) (hc_8 j c h)) U9 rfl rfl) fun a h=>wpList_nil <| x_then_n ⟨(hS.sub (.cons mr (.rr (.rr (.zz .nn))))), ?_⟩
   exact (hGD_2 _ _ _ _).1 (hD_169_130559 _ _ ⟨N_1, (h.keep [0, 2, 15, 18, 20, 22, 28]), (hS.sel [0, 1, 2, 1002, 4] (by decide)), mr⟩)
  ·refine ⟨_, (bA 21 589311), rfl, by kernel_rfl, ?_⟩
   refine v_alloc h rfl ti28 hS fun w_61 g_23 hS' a h => ?_
   replace hS : Sep w0 w_61 [_, _, _, _, _, bx g_23 28 [iV 0, iV 0, nS, nS, nS]] Z := hS'
   refine wpList_nil <| x_then_n ⟨(hS.sub (.cons mr (.rr (.rr (.zz .nn))))), ?_⟩
   exact (hGD_2 _ _ _ _).1 (hD_169_589311 _ _ ⟨g_23, N_1, (h.keep [0, 2, 4, 15, 18, 20, 22, 27]), (hS.sel [0, 1, 2, 1002, 4, 5] (by decide)), mr⟩)
 ·refine ⟨_, (bA 21 554495), rfl, by kernel_rfl, ?_⟩
  refine v_alloc h rfl ti28 hS fun w_62 g_24 hS' a h => ?_
  replace hS : Sep w0 w_62 [_, _, _, _, bx g_24 28 [iV 0, iV 0, nS, nS, nS]] Z := hS'
  refine wpList_nil <| x_then_n ⟨(hS.sub (.cons mr (.rr (.rr (.zz .nn))))), ?_⟩
  refine h_events [9, 11] (by kernel_rfl) (by simp) ?_
  intro i hi; simp only [List.mem_cons, List.not_mem_nil, or_false] at hi; rcases hi with rfl | rfl
  ·refine ⟨_, (bA 21 555007), rfl, by kernel_rfl, ?_⟩
   refine s_call h rfl Try.call60 rfl (hocketlaw7_Keys.calls (shr .i64 x0 11) t_3 w0 _ _ _ mr (hS.enter [] (by decide))  et_3) ?_
   rintro v_39 w_63 ⟨_, N_44, rfl, hS', hr_34⟩
   intro a h
   obtain ⟨N_45, hS'', le_37, ln_8⟩ := hS.call [] (by decide) rfl (l' := []) (ow := []) rfl hS'
   replace hS : Sep w0 w_63 [N_45, _, _, _, _] Z := hS''
   refine wpList_nil <| x_then_n ⟨(hS.sub (.cons le_37 (.rr (.rr (.zz .nn))))), ?_⟩
   refine h_event 11 (bA 21 557055) rfl (by kernel_rfl) (by kernel_rfl) ?_
   have hq_6 : Reps Kd.str Mem.no ([([] : List UInt8), ([97] : List UInt8), ([98] : List UInt8), ([97, 98] : List UInt8)] : List (List UInt8)) _ := ((Reps.one (d := Kd.str) (x := ([] : List UInt8)) (show Kd.str.K _ _ [.string ⟨([] : List UInt8).toArray⟩] from rfl)).append ((Reps.one (d := Kd.str) (x := ([97] : List UInt8)) (show Kd.str.K _ _ [.string ⟨([97] : List UInt8).toArray⟩] from rfl)).append ((Reps.one (d := Kd.str) (x := ([98] : List UInt8)) (show Kd.str.K _ _ [.string ⟨([98] : List UInt8).toArray⟩] from rfl)).append ((Reps.one (d := Kd.str) (x := ([97, 98] : List UInt8)) (show Kd.str.K _ _ [.string ⟨([97, 98] : List UInt8).toArray⟩] from rfl)).append (Reps.nil Kd.str _)))))
   refine s_buildSlice h rfl U83 ti9 rfl rfl rfl (.cons rfl (.cons rfl (.cons rfl (.cons rfl .nil)))) rfl rfl rfl hS hq_6 rfl fun w_64 v_40 M_14 hS' ho_6 a h => ?_
   replace hS : Sep w0 w_64 [_, _, _, _, _, M_14] Z := hS'
   refine wpList_nil <| x_then_n ⟨(hS.sub (.cons le_37 (.rr (.rr (.zz .nn))))), ?_⟩
   refine t_takeE 15 (bA 21 589823) rfl rfl rfl rfl h (hS.sub (.cons le_37 (.rr (.rr (.zz .nn))))) (f := fun ad => .pointer (some ad)) (r_indexO h U83 ti9 rfl rfl rfl ho_6 et_4) ?_
   rintro ad_6 ⟨cs_6, hk_6, hc_9⟩
   obtain rfl := (show cs_6 = [.string ⟨t_4.toArray⟩] from hk_6)
   intro a h
   refine h_event 16 (bA 21 655359) rfl (by kernel_rfl) (by kernel_rfl) <| s_load h rfl rfl (el_one (o := 0) (fun j c h => Mem.cell_le (hS.own 5) (hc_9 j c h)) U9 rfl rfl) fun a h=>wpList_nil <| x_then_n ⟨(hS.sub (.cons le_37 (.rr (.rr (.zz .nn))))), ?_⟩
   refine h_event 17 (bA 21 786431) rfl (by kernel_rfl) (by kernel_rfl) <| s_s2b h rfl U9 U26 U5 rfl (must_some eu_2) hS fun w_65 v_41 M_15 hS' hr_35 a h => ?_
   obtain ⟨N_46, hS'', le_38, lo_9⟩ := Sep.freeze (l := [bx g_1 28 [iV 0, iV 0, nS, nS, nS], M_1, Mem.no, bx g_24 28 [iV 0, iV 0, nS, nS, nS], M_14, M_15]) hS' 5 rfl
   replace hS : Sep w0 w_65 [N_46, _, _, _, _, _, _] Z := hS''
   refine wpList_nil <| x_then_n ⟨(hS.sub (.cons (le_37.trans le_38) (.rr (.rr (.zz .nn))))), ?_⟩
   refine t_take 18 (bA 21 1048575) rfl rfl rfl rfl h (hS.sub (.cons (le_37.trans le_38) (.rr (.rr (.zz .nn))))) (v := .agg ([iV (w64 ((Int.tmod (band .i64 x0 31) 13) + 0)), iV (band .i64 (shr .i64 x0 8) 7), v_39, v_2, v_41] : List Value).toArray) (fun w hS => r_build h ti28 pl28 rfl (.cons rfl (.cons rfl (.cons (hr_34.mono ln_8).cells (.cons (hr_1.mono lo_1).cells (.cons (hr_35.mono lo_9).cells .nil))))) (cs := [iV (w64 ((Int.tmod (band .i64 x0 31) 13) + 0)), iV (band .i64 (shr .i64 x0 8) 7), v_39, v_2, v_41]) (by kernel_rfl)) fun a h=>h_event 20 (bA 21 2097151) rfl (by kernel_rfl) (by kernel_rfl) ?_
   refine sto 4 h rfl rfl hS rfl ti28 rfl rfl rfl (oa 2 rfl (oc (hr_34.mono ln_8).one (oc (hr_1.mono lo_1).one (oc (hr_35.mono lo_9).one on0)))) fun w_66 hS' => ?_
   replace hS : Sep w0 w_66 [_, _, _, _, Mem.one g_24 (.cells ([iV (w64 ((Int.tmod (band .i64 x0 31) 13) + 0)), iV (band .i64 (shr .i64 x0 8) 7), v_39, v_2, v_41] : List Value).toArray 28 (0, 0)), _, _] Z := hS'
   refine wpList_nil <| x_then_n ⟨(hS.sub (.cons (le_37.trans le_38) (.rr (.rr (.zz .nn))))), ?_⟩
   refine h_done (by kernel_rfl) ?_
   exact x_then_n (hJ_j_1 (⟨w64 ((Int.tmod (band .i64 x0 31) 13) + 0), band .i64 (shr .i64 x0 8) 7, t_3, t_1, t_4⟩ : api_Cmd) H _ _ ⟨v_39, v_2, v_41, g_24, N_46, (h.keep [0, 2, 4]), (hS.sel [0, 1, 1001, 1002, 4] (by decide)), (le_37.trans le_38), ((hr_34.mono ln_8).mono le_38), ((hr_1.mono lo_1).mono (le_37.trans le_38)), (hr_35.mono lo_9)⟩)
  ·refine ⟨_, (bA 21 556543), rfl, by kernel_rfl, ?_⟩
   have hq_7 : Reps Kd.str Mem.no ([([] : List UInt8), ([97] : List UInt8), ([98] : List UInt8), ([97, 98] : List UInt8)] : List (List UInt8)) _ := ((Reps.one (d := Kd.str) (x := ([] : List UInt8)) (show Kd.str.K _ _ [.string ⟨([] : List UInt8).toArray⟩] from rfl)).append ((Reps.one (d := Kd.str) (x := ([97] : List UInt8)) (show Kd.str.K _ _ [.string ⟨([97] : List UInt8).toArray⟩] from rfl)).append ((Reps.one (d := Kd.str) (x := ([98] : List UInt8)) (show Kd.str.K _ _ [.string ⟨([98] : List UInt8).toArray⟩] from rfl)).append ((Reps.one (d := Kd.str) (x := ([97, 98] : List UInt8)) (show Kd.str.K _ _ [.string ⟨([97, 98] : List UInt8).toArray⟩] from rfl)).append (Reps.nil Kd.str _)))))
   refine s_buildSlice h rfl U83 ti9 rfl rfl rfl (.cons rfl (.cons rfl (.cons rfl (.cons rfl .nil)))) rfl rfl rfl hS hq_7 rfl fun w_67 v_42 M_16 hS' ho_7 a h => ?_
   replace hS : Sep w0 w_67 [_, _, _, _, _, M_16] Z := hS'
   refine wpList_nil <| x_then_n ⟨(hS.sub (.cons mr (.rr (.rr (.zz .nn))))), ?_⟩
   refine t_takeE 15 (bA 21 589311) rfl rfl rfl rfl h (hS.sub (.cons mr (.rr (.rr (.zz .nn))))) (f := fun ad => .pointer (some ad)) (r_indexO h U83 ti9 rfl rfl rfl ho_7 et_4) ?_
   rintro ad_7 ⟨cs_7, hk_7, hc_10⟩
   obtain rfl := (show cs_7 = [.string ⟨t_4.toArray⟩] from hk_7)
   intro a h
   refine h_state fun GD_3 hGD_3 => ?_
   have hD_390_2097151 : ∀ (a : Act) (w_68 : World), (∃ (v_43 : Value) (v_44 : Value) (N_47 : Mem), Fr 60 a [(0, iV x0), (2, .pointer (some ⟨g_1, 0, none⟩)), (4, .pointer (some ⟨g_24, 0, none⟩))] ∧ Sep w0 w_68 [N_47, bx g_1 28 [iV 0, iV 0, nS, nS, nS], M_1, Mem.no, Mem.one g_24 (.cells ([iV (w64 ((Int.tmod (band .i64 x0 31) 13) + 0)), iV (band .i64 (shr .i64 x0 8) 7), v_43, v_2, v_44] : List Value).toArray 28 (0, 0)), M_16] Z ∧ N_1.le N_47 ∧ Rd Kd.u8 N_47 v_43 t_3 ∧ Rd Kd.u8 N_47 v_44 t_4) → GD_3 0 (bA 21 2097151) a w_68 := by
    rintro a w_68 ⟨v_43, v_44, N_47, h, hS, le_39, hr_36, hr_37⟩
    refine (hGD_3 _ _ _ _).2 <| h_done (by kernel_rfl) ?_
    exact x_then_n (hJ_j_1 (⟨w64 ((Int.tmod (band .i64 x0 31) 13) + 0), band .i64 (shr .i64 x0 8) 7, t_3, t_1, t_4⟩ : api_Cmd) H _ _ ⟨v_43, v_2, v_44, g_24, N_47, (h.keep [0, 2, 4]), (hS.sel [0, 1, 1001, 1002, 4] (by decide)), le_39, hr_36, ((hr_1.mono lo_1).mono le_39), hr_37⟩)
   have hD_390_1048575 : ∀ (a : Act) (w_69 : World), (∃ (v_45 : Value) (v_46 : Value) (N_48 : Mem), Fr 60 a [(0, iV x0), (2, .pointer (some ⟨g_1, 0, none⟩)), (4, .pointer (some ⟨g_24, 0, none⟩)), (30, .agg ([iV (w64 ((Int.tmod (band .i64 x0 31) 13) + 0)), iV (band .i64 (shr .i64 x0 8) 7), v_45, v_2, v_46] : List Value).toArray)] ∧ Sep w0 w_69 [N_48, bx g_1 28 [iV 0, iV 0, nS, nS, nS], M_1, Mem.no, bx g_24 28 [iV 0, iV 0, nS, nS, nS], M_16] Z ∧ N_1.le N_48 ∧ Rd Kd.u8 N_48 v_45 t_3 ∧ Rd Kd.u8 N_48 v_46 t_4) → GD_3 1 (bA 21 1048575) a w_69 := by
    rintro a w_69 ⟨v_45, v_46, N_48, h, hS, le_40, hr_38, hr_39⟩
    refine (hGD_3 _ _ _ _).2 <| h_events [20] (by kernel_rfl) (by simp) ?_
    intro i hi; simp only [List.mem_cons, List.not_mem_nil, or_false] at hi; rcases hi with rfl
    refine ⟨_, (bA 21 2097151), rfl, by kernel_rfl, ?_⟩
    refine sto 4 h rfl rfl hS rfl ti28 rfl rfl rfl (oa 2 rfl (oc hr_38.one (oc (hr_1.mono lo_1).one (oc hr_39.one on0)))) fun w_70 hS' => ?_
    replace hS : Sep w0 w_70 [_, _, _, _, Mem.one g_24 (.cells ([iV (w64 ((Int.tmod (band .i64 x0 31) 13) + 0)), iV (band .i64 (shr .i64 x0 8) 7), v_45, v_2, v_46] : List Value).toArray 28 (0, 0)), _] Z := hS'
    refine wpList_nil <| x_then_n ⟨(hS.sub (.cons le_40 (.rr (.rr (.zz .nn))))), ?_⟩
    exact (hGD_3 _ _ _ _).1 (hD_390_2097151 _ _ ⟨v_45, v_46, N_48, (h.keep [0, 2, 4]), (hS.sel [0, 1, 2, 1002, 4, 5] (by decide)), le_40, hr_38, hr_39⟩)
   have hD_390_655359 : ∀ (a : Act) (w_71 : World), (∃ (v_47 : Value) (N_49 : Mem), Fr 60 a [(0, iV x0), (2, .pointer (some ⟨g_1, 0, none⟩)), (4, .pointer (some ⟨g_24, 0, none⟩)), (15, iV (w64 ((Int.tmod (band .i64 x0 31) 13) + 0))), (18, iV (band .i64 (shr .i64 x0 8) 7)), (21, v_47), (22, v_2), (28, .string ⟨t_4.toArray⟩)] ∧ Sep w0 w_71 [N_49, bx g_1 28 [iV 0, iV 0, nS, nS, nS], M_1, Mem.no, bx g_24 28 [iV 0, iV 0, nS, nS, nS], M_16] Z ∧ N_1.le N_49 ∧ Rd Kd.u8 N_49 v_47 t_3) → GD_3 3 (bA 21 655359) a w_71 := by
    rintro a w_71 ⟨v_47, N_49, h, hS, le_41, hr_40⟩
    refine (hGD_3 _ _ _ _).2 <| h_events [17] (by kernel_rfl) (by simp) ?_
    intro i hi; simp only [List.mem_cons, List.not_mem_nil, or_false] at hi; rcases hi with rfl
    refine ⟨_, (bA 21 786431), rfl, by kernel_rfl, ?_⟩
    refine s_s2b h rfl U9 U26 U5 rfl (must_some eu_2) hS fun w_72 v_48 M_17 hS' hr_41 a h => ?_
    obtain ⟨N_50, hS'', le_42, lo_10⟩ := Sep.freeze (l := [bx g_1 28 [iV 0, iV 0, nS, nS, nS], M_1, Mem.no, bx g_24 28 [iV 0, iV 0, nS, nS, nS], M_16, M_17]) hS' 5 rfl
    replace hS : Sep w0 w_72 [N_50, _, _, _, _, _, _] Z := hS''
    refine wpList_nil <| x_then_n ⟨(hS.sub (.cons (le_41.trans le_42) (.rr (.rr (.zz .nn))))), ?_⟩
    refine t_take 18 (bA 21 1048575) rfl rfl rfl rfl h (hS.sub (.cons (le_41.trans le_42) (.rr (.rr (.zz .nn))))) (v := .agg ([iV (w64 ((Int.tmod (band .i64 x0 31) 13) + 0)), iV (band .i64 (shr .i64 x0 8) 7), v_47, v_2, v_48] : List Value).toArray) (fun w hS => r_build h ti28 pl28 rfl (.cons rfl (.cons rfl (.cons hr_40.cells (.cons (hr_1.mono lo_1).cells (.cons (hr_41.mono lo_10).cells .nil))))) (cs := [iV (w64 ((Int.tmod (band .i64 x0 31) 13) + 0)), iV (band .i64 (shr .i64 x0 8) 7), v_47, v_2, v_48]) (by kernel_rfl)) fun a h=>?_
    exact (hGD_3 _ _ _ _).1 (hD_390_1048575 _ _ ⟨v_47, v_48, N_50, (h.keep [0, 2, 4, 30]), (hS.sel [0, 1, 2, 1002, 4, 5] (by decide)), (le_41.trans le_42), (hr_40.mono le_42), (hr_41.mono lo_10)⟩)
   have hD_390_785919 : ∀ (a : Act) (w_73 : World), (∃ (v_49 : Value) (N_51 : Mem), Fr 60 a [(0, iV x0), (2, .pointer (some ⟨g_1, 0, none⟩)), (4, .pointer (some ⟨g_24, 0, none⟩)), (15, iV (w64 ((Int.tmod (band .i64 x0 31) 13) + 0))), (18, iV (band .i64 (shr .i64 x0 8) 7)), (20, iV (shr .i64 x0 11)), (22, v_2), (29, v_49)] ∧ Sep w0 w_73 [N_51, bx g_1 28 [iV 0, iV 0, nS, nS, nS], M_1, Mem.no, bx g_24 28 [iV 0, iV 0, nS, nS, nS], M_16] Z ∧ N_1.le N_51 ∧ Rd Kd.u8 N_51 v_49 t_4) → GD_3 3 (bA 21 785919) a w_73 := by
    rintro a w_73 ⟨v_49, N_51, h, hS, le_43, hr_42⟩
    refine (hGD_3 _ _ _ _).2 <| h_events [9] (by kernel_rfl) (by simp) ?_
    intro i hi; simp only [List.mem_cons, List.not_mem_nil, or_false] at hi; rcases hi with rfl
    refine ⟨_, (bA 21 786431), rfl, by kernel_rfl, ?_⟩
    refine s_call h rfl Try.call60 rfl (hocketlaw7_Keys.calls (shr .i64 x0 11) t_3 w0 _ _ _ mr (hS.enter [] (by decide))  et_3) ?_
    rintro v_50 w_74 ⟨_, N_52, rfl, hS', hr_43⟩
    intro a h
    obtain ⟨N_53, hS'', le_44, ln_9⟩ := hS.call [] (by decide) rfl (l' := []) (ow := []) rfl hS'
    replace hS : Sep w0 w_74 [N_53, _, _, _, _, _] Z := hS''
    refine wpList_nil <| x_then_n ⟨(hS.sub (.cons (le_43.trans le_44) (.rr (.rr (.zz .nn))))), ?_⟩
    refine t_take 18 (bA 21 1048575) rfl rfl rfl rfl h (hS.sub (.cons (le_43.trans le_44) (.rr (.rr (.zz .nn))))) (v := .agg ([iV (w64 ((Int.tmod (band .i64 x0 31) 13) + 0)), iV (band .i64 (shr .i64 x0 8) 7), v_50, v_2, v_49] : List Value).toArray) (fun w hS => r_build h ti28 pl28 rfl (.cons rfl (.cons rfl (.cons (hr_43.mono ln_9).cells (.cons (hr_1.mono lo_1).cells (.cons hr_42.cells .nil))))) (cs := [iV (w64 ((Int.tmod (band .i64 x0 31) 13) + 0)), iV (band .i64 (shr .i64 x0 8) 7), v_50, v_2, v_49]) (by kernel_rfl)) fun a h=>?_
    exact (hGD_3 _ _ _ _).1 (hD_390_1048575 _ _ ⟨v_50, v_49, N_53, (h.keep [0, 2, 4, 30]), (hS.sel [0, 1, 2, 1002, 4, 5] (by decide)), (le_43.trans le_44), (hr_43.mono ln_9), (hr_42.mono le_44)⟩)
   have hD_390_589823 : ∀ (a : Act) (w_75 : World), (∃ (v_51 : Value) (N_54 : Mem), Fr 60 a [(0, iV x0), (2, .pointer (some ⟨g_1, 0, none⟩)), (4, .pointer (some ⟨g_24, 0, none⟩)), (15, iV (w64 ((Int.tmod (band .i64 x0 31) 13) + 0))), (18, iV (band .i64 (shr .i64 x0 8) 7)), (21, v_51), (22, v_2), (27, .pointer (some ad_7))] ∧ Sep w0 w_75 [N_54, bx g_1 28 [iV 0, iV 0, nS, nS, nS], M_1, Mem.no, bx g_24 28 [iV 0, iV 0, nS, nS, nS], M_16] Z ∧ N_1.le N_54 ∧ Rd Kd.u8 N_54 v_51 t_3) → GD_3 4 (bA 21 589823) a w_75 := by
    rintro a w_75 ⟨v_51, N_54, h, hS, le_45, hr_44⟩
    refine (hGD_3 _ _ _ _).2 <| h_events [16] (by kernel_rfl) (by simp) ?_
    intro i hi; simp only [List.mem_cons, List.not_mem_nil, or_false] at hi; rcases hi with rfl
    refine ⟨_, (bA 21 655359), rfl, by kernel_rfl, ?_⟩
    refine s_load h rfl rfl (el_one (o := 0) (fun j c h => Mem.cell_le (hS.own 5) (hc_10 j c h)) U9 rfl rfl) fun a h=>wpList_nil <| x_then_n ⟨(hS.sub (.cons le_45 (.rr (.rr (.zz .nn))))), ?_⟩
    exact (hGD_3 _ _ _ _).1 (hD_390_655359 _ _ ⟨v_51, N_54, (h.keep [0, 2, 4, 15, 18, 21, 22, 28]), (hS.sel [0, 1, 2, 1002, 4, 5] (by decide)), le_45, hr_44⟩)
   have hD_390_654847 : ∀ (a : Act) (w_76 : World), (∃ (N_55 : Mem), Fr 60 a [(0, iV x0), (2, .pointer (some ⟨g_1, 0, none⟩)), (4, .pointer (some ⟨g_24, 0, none⟩)), (15, iV (w64 ((Int.tmod (band .i64 x0 31) 13) + 0))), (18, iV (band .i64 (shr .i64 x0 8) 7)), (20, iV (shr .i64 x0 11)), (22, v_2), (28, .string ⟨t_4.toArray⟩)] ∧ Sep w0 w_76 [N_55, bx g_1 28 [iV 0, iV 0, nS, nS, nS], M_1, Mem.no, bx g_24 28 [iV 0, iV 0, nS, nS, nS], M_16] Z ∧ N_1.le N_55) → GD_3 4 (bA 21 654847) a w_76 := by
    rintro a w_76 ⟨N_55, h, hS, le_46⟩
    refine (hGD_3 _ _ _ _).2 <| h_events [9, 17] (by kernel_rfl) (by simp) ?_
    intro i hi; simp only [List.mem_cons, List.not_mem_nil, or_false] at hi; rcases hi with rfl | rfl
    ·refine ⟨_, (bA 21 655359), rfl, by kernel_rfl, ?_⟩
     refine s_call h rfl Try.call60 rfl (hocketlaw7_Keys.calls (shr .i64 x0 11) t_3 w0 _ _ _ mr (hS.enter [] (by decide))  et_3) ?_
     rintro v_52 w_77 ⟨_, N_56, rfl, hS', hr_45⟩
     intro a h
     obtain ⟨N_57, hS'', le_47, ln_10⟩ := hS.call [] (by decide) rfl (l' := []) (ow := []) rfl hS'
     replace hS : Sep w0 w_77 [N_57, _, _, _, _, _] Z := hS''
     refine wpList_nil <| x_then_n ⟨(hS.sub (.cons (le_46.trans le_47) (.rr (.rr (.zz .nn))))), ?_⟩
     exact (hGD_3 _ _ _ _).1 (hD_390_655359 _ _ ⟨v_52, N_57, (h.keep [0, 2, 4, 15, 18, 21, 22, 28]), (hS.sel [0, 1, 2, 1002, 4, 5] (by decide)), (le_46.trans le_47), (hr_45.mono ln_10)⟩)
    ·refine ⟨_, (bA 21 785919), rfl, by kernel_rfl, ?_⟩
     refine s_s2b h rfl U9 U26 U5 rfl (must_some eu_2) hS fun w_78 v_53 M_18 hS' hr_46 a h => ?_
     obtain ⟨N_58, hS'', le_48, lo_11⟩ := Sep.freeze (l := [bx g_1 28 [iV 0, iV 0, nS, nS, nS], M_1, Mem.no, bx g_24 28 [iV 0, iV 0, nS, nS, nS], M_16, M_18]) hS' 5 rfl
     replace hS : Sep w0 w_78 [N_58, _, _, _, _, _, _] Z := hS''
     refine wpList_nil <| x_then_n ⟨(hS.sub (.cons (le_46.trans le_48) (.rr (.rr (.zz .nn))))), ?_⟩
     exact (hGD_3 _ _ _ _).1 (hD_390_785919 _ _ ⟨v_53, N_58, (h.keep [0, 2, 4, 15, 18, 20, 22, 29]), (hS.sel [0, 1, 2, 1002, 4, 5] (by decide)), (le_46.trans le_48), (hr_46.mono lo_11)⟩)
   refine (hGD_3 _ _ _ _).2 <| h_events [9, 16] (by kernel_rfl) (by simp) ?_
   intro i hi; simp only [List.mem_cons, List.not_mem_nil, or_false] at hi; rcases hi with rfl | rfl
   ·refine ⟨_, (bA 21 589823), rfl, by kernel_rfl, ?_⟩
    refine s_call h rfl Try.call60 rfl (hocketlaw7_Keys.calls (shr .i64 x0 11) t_3 w0 _ _ _ mr (hS.enter [] (by decide))  et_3) ?_
    rintro v_54 w_79 ⟨_, N_59, rfl, hS', hr_47⟩
    intro a h
    obtain ⟨N_60, hS'', le_49, ln_11⟩ := hS.call [] (by decide) rfl (l' := []) (ow := []) rfl hS'
    replace hS : Sep w0 w_79 [N_60, _, _, _, _, _] Z := hS''
    refine wpList_nil <| x_then_n ⟨(hS.sub (.cons le_49 (.rr (.rr (.zz .nn))))), ?_⟩
    exact (hGD_3 _ _ _ _).1 (hD_390_589823 _ _ ⟨v_54, N_60, (h.keep [0, 2, 4, 15, 18, 21, 22, 27]), (hS.sel [0, 1, 2, 1002, 4, 5] (by decide)), le_49, (hr_47.mono ln_11)⟩)
   ·refine ⟨_, (bA 21 654847), rfl, by kernel_rfl, ?_⟩
    refine s_load h rfl rfl (el_one (o := 0) (fun j c h => Mem.cell_le (hS.own 5) (hc_10 j c h)) U9 rfl rfl) fun a h=>wpList_nil <| x_then_n ⟨(hS.sub (.cons mr (.rr (.rr (.zz .nn))))), ?_⟩
    exact (hGD_3 _ _ _ _).1 (hD_390_654847 _ _ ⟨N_1, (h.keep [0, 2, 4, 15, 18, 20, 22, 28]), (hS.sel [0, 1, 2, 1002, 4, 5] (by decide)), mr⟩)

set_option maxHeartbeats 4000000 in
set_option maxRecDepth 20000 in
theorem hocketlaw10_Entry.calls (x0 : Int) (x1 : Int) (r : api_Entry) (w0 w : World) (Z A : Mem) (hA : A.le Z) (hS : Sep w0 w [] Z)
    (H : hocketlaw10_Entry.f x0 x1 = some r) :
    Calls Try.prog 28 [iV x0, iV x1].toArray w (Ret fun v w' => ∃ (u0 : Value) (u1 : Value) (u2 : Value) (N : Mem), v = .agg [iV r.Sess, iV r.Seq, iV r.Cmd.Kind, iV r.Cmd.Who, u0, u1, u2].toArray ∧ Sep w0 w' [N] Z ∧ Rd Kd.u8 N u0 r.Cmd.Key ∧ Rd Kd.u8 N u1 r.Cmd.Val ∧ Rd Kd.u8 N u2 r.Cmd.Old) := by
 unfold hocketlaw10_Entry.f at H
 refine f_enter _ Try.func28 rfl Try.ntmps28 rfl fun a h=>?_
 replace h : Fr 20 a [(0, iV x0), (1, iV x1)] := h
 replace hS := hS.start
 refine qr <| v_alloc h rfl ti30 hS fun w_1 g_1 hS' a h => ?_
 replace hS : Sep w0 w_1 [_, bx g_1 30 [iV 0, iV 0, iV 0, iV 0, nS, nS, nS]] Z := hS'
 refine nx <| qr <| mv h rfl fun a h=>s_shift (r := shr .i64 x0 25) h rfl rfl rfl (by decide) (.inr ⟨rfl, rfl⟩) fun a h=>s_bits (i := shr .i64 x0 25) (j := 7) (r := band .i64 (shr .i64 x0 25) 7) h rfl rfl rfl (.inl ⟨rfl, rfl⟩) fun a h=>s_div (r := Int.tmod (band .i64 (shr .i64 x0 25) 7) 6) h rfl rfl rfl (by decide) (.inr ⟨rfl, rfl⟩) fun a h=>s_arith (r := w64 ((Int.tmod (band .i64 (shr .i64 x0 25) 7) 6) + 1)) h rfl rfl rfl (.inl ⟨rfl, rfl⟩) fun a h=>mv h rfl fun a h=>s_div (r := w64 (Int.tdiv x1 3)) h rfl rfl rfl (by decide) (.inl ⟨rfl, rfl⟩) fun a h=>mv h rfl fun a h=>?_
 refine s_shift (r := shr .i64 x0 28) h rfl rfl rfl (by decide) (.inr ⟨rfl, rfl⟩) fun a h=>s_bits (i := shr .i64 x0 28) (j := 1) (r := band .i64 (shr .i64 x0 28) 1) h rfl rfl rfl (.inl ⟨rfl, rfl⟩) fun a h=>s_arith (r := w64 ((w64 (Int.tdiv x1 3)) + (band .i64 (shr .i64 x0 28) 1))) h rfl rfl rfl (.inl ⟨rfl, rfl⟩) fun a h=>s_arith (r := w64 ((w64 ((w64 (Int.tdiv x1 3)) + (band .i64 (shr .i64 x0 28) 1))) + 1)) h rfl rfl rfl (.inl ⟨rfl, rfl⟩) fun a h=>mv h rfl fun a h=>?_
 obtain ⟨t_1, et_1, H⟩ := bs H
 refine s_call h rfl Try.call45 rfl (hocketlaw8_Cmd.calls x0 t_1 w0 _ _ _ mr (hS.enter [] (by decide))  et_1) ?_
 rintro _ w_2 ⟨v_1, v_2, v_3, N_1, rfl, hS', hr_1, hr_2, hr_3⟩
 intro a h
 obtain ⟨N_2, hS'', le_1, ln_1⟩ := hS.call [] (by decide) rfl (l' := []) (ow := []) rfl hS'
 replace hS : Sep w0 w_2 [N_2, _] Z := hS''
 refine s_build h rfl ti30 pl30 rfl (.cons rfl (.cons rfl (.cons rfl .nil))) (cs := [iV (w64 ((Int.tmod (band .i64 (shr .i64 x0 25) 7) 6) + 1)), iV (w64 ((w64 ((w64 (Int.tdiv x1 3)) + (band .i64 (shr .i64 x0 28) 1))) + 1)), iV t_1.Kind, iV t_1.Who, v_1, v_2, v_3]) (by kernel_rfl) fun a h=>?_
 refine sto 1 h rfl rfl hS rfl ti30 rfl rfl rfl (oa 4 rfl (oc (hr_1.mono ln_1).one (oc (hr_2.mono ln_1).one (oc (hr_3.mono ln_1).one on0)))) fun w_3 hS' => ?_
 replace hS : Sep w0 w_3 [_, Mem.one g_1 (.cells ([iV (w64 ((Int.tmod (band .i64 (shr .i64 x0 25) 7) 6) + 1)), iV (w64 ((w64 ((w64 (Int.tdiv x1 3)) + (band .i64 (shr .i64 x0 28) 1))) + 1)), iV t_1.Kind, iV t_1.Who, v_1, v_2, v_3] : List Value).toArray 30 (0, 0))] Z := hS'
 refine nx <| wp_ret ?_
 obtain rfl := Option.some.inj H
 exact f_ret h (rs := [.cell 4 30]) rfl (.cell rfl (hS.load_agg (p := 1) (us := [iV (w64 ((Int.tmod (band .i64 (shr .i64 x0 25) 7) 6) + 1)), iV (w64 ((w64 ((w64 (Int.tdiv x1 3)) + (band .i64 (shr .i64 x0 28) 1))) + 1)), iV t_1.Kind, iV t_1.Who, v_1, v_2, v_3]) rfl U30 rfl ti30 rfl rfl) .nil) ⟨_, rfl, v_1, v_2, v_3, N_2, rfl, (hS.sel [0] (by decide)), (hr_1.mono ln_1), (hr_2.mono ln_1), (hr_3.mono ln_1)⟩


end Go.Proofs
