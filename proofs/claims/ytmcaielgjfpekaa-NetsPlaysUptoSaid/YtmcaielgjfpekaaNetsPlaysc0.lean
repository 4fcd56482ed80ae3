/- What the calls do: each function once. -/
import Derived.Test.YtmcaielgjfpekaaFacts
namespace Go.Proofs
open Go.Gp
set_option linter.unusedVariables false
set_option maxHeartbeats 4000000 in
set_option maxRecDepth 20000 in
theorem nets_New.calls (x0 : Int) (r : Int × Int × (List nets_frame)) (w0 w : World) (Z A : Mem) (hA : A.le Z) (hS : Sep w0 w [] Z)
    (H : nets_New.f x0 = some r) :
    Calls Try.prog 9 [iV x0].toArray w (Ret fun v w' => ∃ (u0 : Nat) (u1 : Value) (N : Mem) (M0 : Mem), v = .pointer (some ⟨u0, 0, none⟩) ∧ Sep w0 w' [N, bx u0 58 [iV r.1, iV r.2.1, u1], M0] Z ∧ Own k_nets_frame 60 M0 N u1 r.2.2) := by
 unfold nets_New.f at H
 refine f_enter _ Try.func9 rfl Try.ntmps9 rfl fun a h=>?_
 replace h : Fr 8 a [(0, iV x0)] := h
 replace hS := hS.start
 refine qr <| sg h rfl fun a h=>nx <| qr <| mv h rfl fun a h=>s_max h rfl rfl rfl fun a h=>s_min h rfl rfl rfl fun a h=>s_build h rfl ti58 pl58 rfl (.cons rfl .nil) (cs := [iV (mn (mx x0 1) 7), iV 0, nS]) (by kernel_rfl) fun a h=>v_box (vs := [iV (mn (mx x0 1) 7), iV 0, nS]) h rfl rfl rfl hS fun w_1 g_1 hS' a h => ?_
 replace hS : Sep w0 w_1 [_, bx g_1 58 [iV (mn (mx x0 1) 7), iV 0, nS]] Z := hS'
 refine sg h rfl fun a h=>nx <| wp_ret ?_
 have hS' := hS.room
 replace hS : Sep w0 w_1 [_, _, Mem.no] Z := hS'
 obtain rfl := Option.some.inj H
 exact r1 h 2 rfl rfl ⟨_, rfl, g_1, nS, Mem.no, Mem.no, rfl, (hS.sel [0, 1, 2] (by decide)), ((Own.nil k_nets_frame 60 Mem.no).mono mr)⟩

set_option maxHeartbeats 4000000 in
set_option maxRecDepth 20000 in
theorem mesg_beyond.calls (x0 : api_Msg) (p0_0 : Value) (p0_1 : Value) (p0_2 : Value) (p0_3 : Value) (p0_4 : Value) (p0_5 : Value) (r : Bool) (w0 w : World) (Z A : Mem) (hA : A.le Z) (hS : Sep w0 w [] Z) (hp0_0 : Rd Kd.u8 A p0_0 x0.Data) (hp0_1 : Rd (Kd.int .i64) A p0_1 x0.Have) (hp0_2 : Rd (Kd.int .i64) A p0_2 x0.Need) (hp0_3 : Rd Kd.u8 A p0_3 x0.Entry.Cmd.Key) (hp0_4 : Rd Kd.u8 A p0_4 x0.Entry.Cmd.Val) (hp0_5 : Rd Kd.u8 A p0_5 x0.Entry.Cmd.Old)
    (H : mesg_beyond.f x0 = some r) :
    Calls Try.prog 55 [.agg (E32 x0 p0_0 p0_1 p0_2 p0_3 p0_4 p0_5).toArray].toArray w (Ret fun v w' => ∃ (N : Mem), v = .bool r ∧ Sep w0 w' [N] Z) := by
 unfold mesg_beyond.f at H
 refine f_enter _ Try.func55 rfl Try.ntmps55 rfl fun a h=>?_
 replace h : Fr 34 a [(0, .agg (E32 x0 p0_0 p0_1 p0_2 p0_3 p0_4 p0_5).toArray)] := h
 replace hS := hS.start
 refine qr <| v_box (vs := (E32 x0 p0_0 p0_1 p0_2 p0_3 p0_4 p0_5)) h rfl rfl rfl hS fun w_1 g_1 hS' a h => ?_
 replace hS : Sep w0 w_1 [_, bx g_1 32 (E32 x0 p0_0 p0_1 p0_2 p0_3 p0_4 p0_5)] Z := hS'
 refine sg h rfl fun a h=>nx <| c_seq fun KJ_1 hKJ_1 => wp_region_lit <| s_fieldAddr h rfl U32 rfl ti22 rfl rfl fun a h=>s_load h rfl rfl (hS.load_one (p := 1) rfl U22 rfl rfl) fun a h=>s_len h rfl U22 rfl hp0_1 fun a h=>s_cmp (b := decide ((x0.Have.length : Int) > 7)) h rfl rfl rfl (.inr (.inr (.inr (.inr (.inl ⟨rfl, rfl⟩))))) fun a h=>mv h rfl fun a h=>?_
 obtain ⟨hc_1, H⟩ | ⟨hc_1, H⟩ := ii H
 ·refine s_on h rfl rfl (dt hc_1) <| s_fieldAddr h rfl U32 rfl ti3 rfl rfl fun a h=>s_on h rfl rfl (dt hc_1) <| s_load h rfl rfl (hS.load_one (p := 1) rfl U3 rfl rfl) fun a h=>s_on h rfl rfl (dt hc_1) <| s_cmp (b := (x0.Kind == 7)) h rfl rfl rfl (.inl ⟨rfl, rfl⟩) fun a h=>pt h rfl (dt hc_1) fun a h=>mv h rfl fun a h=>?_
  obtain ⟨hc_2, H⟩ | ⟨hc_2, H⟩ := ii H
  ·refine of h rfl rfl (bt hc_2) fun a h=>of h rfl rfl (bt hc_2) fun a h=>of h rfl rfl (bt hc_2) fun a h=>of h rfl rfl (bt hc_2) fun a h=>of h rfl rfl (bt hc_2) fun a h=>s_offu h rfl rfl rfl fun a h=>s_offu h rfl rfl rfl fun a h=>s_offu h rfl rfl rfl fun a h=>of h rfl rfl (bt hc_2) fun a h=>pt h rfl (bt hc_2) fun a h=>mv h rfl fun a h=>oo h rfl rfl fun a h=>?_
   refine oo h rfl rfl fun a h=>oo h rfl rfl fun a h=>oo h rfl rfl fun a h=>oo h rfl rfl fun a h=>s_offu h rfl rfl rfl fun a h=>s_offu h rfl rfl rfl fun a h=>s_offu h rfl rfl rfl fun a h=>oo h rfl rfl fun a h=>pt h rfl rfl fun a h=>sg h rfl fun a h=>wpList_nil <| x_then_n (hKJ_1 _ _ ?_)
   refine wp_ret ?_
   obtain rfl := Option.some.inj H
   exact r1 h 2 rfl rfl ⟨_, rfl, Mem.no, rfl, (hS.sel [0] (by decide))⟩
  ·refine s_on h rfl rfl (bf hc_2) <| s_fieldAddr h rfl U32 rfl ti22 rfl rfl fun a h=>s_on h rfl rfl (bf hc_2) <| s_load h rfl rfl (hS.load_one (p := 1) rfl U22 rfl rfl) fun a h=>s_on h rfl rfl (bf hc_2) <| s_len h rfl U22 rfl hp0_2 fun a h=>s_on h rfl rfl (bf hc_2) <| s_cmp (b := decide ((x0.Need.length : Int) > 8)) h rfl rfl rfl (.inr (.inr (.inr (.inr (.inl ⟨rfl, rfl⟩))))) fun a h=>s_on h rfl rfl (bf hc_2) <| mv h rfl fun a h=>?_
   obtain ⟨hc_3, H⟩ | ⟨hc_3, H⟩ := ii H
   ·refine s_on h rfl rfl (dt hc_3) <| s_fieldAddr h rfl U32 rfl ti3 rfl rfl fun a h=>s_on h rfl rfl (dt hc_3) <| s_load h rfl rfl (hS.load_one (p := 1) rfl U3 rfl rfl) fun a h=>s_on h rfl rfl (dt hc_3) <| s_cmp (b := (x0.Kind == 7)) h rfl rfl rfl (.inl ⟨rfl, rfl⟩) fun a h=>s_on h rfl rfl (bf hc_2) <| pt h rfl (dt hc_3) fun a h=>pf h rfl (bf hc_2) fun a h=>mv h rfl fun a h=>s_on h rfl rfl (bf hc_2) <| s_fieldAddr h rfl U32 rfl ti26 rfl rfl fun a h=>?_
    refine s_on h rfl rfl (bf hc_2) <| s_load h rfl rfl (hS.load_one (p := 1) rfl U26 rfl rfl) fun a h=>s_on h rfl rfl (bf hc_2) <| s_len h rfl U26 rfl hp0_0 fun a h=>s_on h rfl rfl (bf hc_2) <| s_cmp (b := decide ((x0.Data.length : Int) > 64)) h rfl rfl rfl (.inr (.inr (.inr (.inr (.inl ⟨rfl, rfl⟩))))) fun a h=>s_on h rfl rfl (bf hc_2) <| mv h rfl fun a h=>?_
    obtain ⟨hc_4, H⟩ | ⟨hc_4, H⟩ := ii H
    ·refine s_on h rfl rfl (dt hc_4) <| s_fieldAddr h rfl U32 rfl ti3 rfl rfl fun a h=>s_on h rfl rfl (dt hc_4) <| s_load h rfl rfl (hS.load_one (p := 1) rfl U3 rfl rfl) fun a h=>s_on h rfl rfl (dt hc_4) <| s_cmp (b := (x0.Kind == 5)) h rfl rfl rfl (.inl ⟨rfl, rfl⟩) fun a h=>s_on h rfl rfl (bf hc_2) <| pt h rfl (dt hc_4) fun a h=>pf h rfl (bf hc_2) fun a h=>sg h rfl fun a h=>wpList_nil <| x_then_n (hKJ_1 _ _ ?_)
     refine wp_ret ?_
     obtain rfl := Option.some.inj H
     exact r1 h 2 rfl rfl ⟨_, rfl, Mem.no, rfl, (hS.sel [0] (by decide))⟩
    ·refine of h rfl rfl (df hc_4) fun a h=>of h rfl rfl (df hc_4) fun a h=>of h rfl rfl (df hc_4) fun a h=>s_on h rfl rfl (bf hc_2) <| pf h rfl (df hc_4) fun a h=>pf h rfl (bf hc_2) fun a h=>sg h rfl fun a h=>wpList_nil <| x_then_n (hKJ_1 _ _ ?_)
     refine wp_ret ?_
     obtain rfl := Option.some.inj H
     exact r1 h 2 rfl rfl ⟨_, rfl, Mem.no, rfl, (hS.sel [0] (by decide))⟩
   ·refine of h rfl rfl (df hc_3) fun a h=>of h rfl rfl (df hc_3) fun a h=>of h rfl rfl (df hc_3) fun a h=>s_on h rfl rfl (bf hc_2) <| pf h rfl (df hc_3) fun a h=>pf h rfl (bf hc_2) fun a h=>mv h rfl fun a h=>s_on h rfl rfl rfl <| s_fieldAddr h rfl U32 rfl ti26 rfl rfl fun a h=>s_on h rfl rfl rfl <| s_load h rfl rfl (hS.load_one (p := 1) rfl U26 rfl rfl) fun a h=>s_on h rfl rfl rfl <| s_len h rfl U26 rfl hp0_0 fun a h=>?_
    refine s_on h rfl rfl rfl <| s_cmp (b := decide ((x0.Data.length : Int) > 64)) h rfl rfl rfl (.inr (.inr (.inr (.inr (.inl ⟨rfl, rfl⟩))))) fun a h=>s_on h rfl rfl rfl <| mv h rfl fun a h=>?_
    obtain ⟨hc_5, H⟩ | ⟨hc_5, H⟩ := ii H
    ·refine s_on h rfl rfl (dt hc_5) <| s_fieldAddr h rfl U32 rfl ti3 rfl rfl fun a h=>s_on h rfl rfl (dt hc_5) <| s_load h rfl rfl (hS.load_one (p := 1) rfl U3 rfl rfl) fun a h=>s_on h rfl rfl (dt hc_5) <| s_cmp (b := (x0.Kind == 5)) h rfl rfl rfl (.inl ⟨rfl, rfl⟩) fun a h=>s_on h rfl rfl rfl <| pt h rfl (dt hc_5) fun a h=>pf h rfl rfl fun a h=>sg h rfl fun a h=>wpList_nil <| x_then_n (hKJ_1 _ _ ?_)
     refine wp_ret ?_
     obtain rfl := Option.some.inj H
     exact r1 h 2 rfl rfl ⟨_, rfl, Mem.no, rfl, (hS.sel [0] (by decide))⟩
    ·refine of h rfl rfl (df hc_5) fun a h=>of h rfl rfl (df hc_5) fun a h=>of h rfl rfl (df hc_5) fun a h=>s_on h rfl rfl rfl <| pf h rfl (df hc_5) fun a h=>pf h rfl rfl fun a h=>sg h rfl fun a h=>wpList_nil <| x_then_n (hKJ_1 _ _ ?_)
     refine wp_ret ?_
     obtain rfl := Option.some.inj H
     exact r1 h 2 rfl rfl ⟨_, rfl, Mem.no, rfl, (hS.sel [0] (by decide))⟩
 ·refine of h rfl rfl (df hc_1) fun a h=>of h rfl rfl (df hc_1) fun a h=>of h rfl rfl (df hc_1) fun a h=>pf h rfl (df hc_1) fun a h=>mv h rfl fun a h=>s_on h rfl rfl rfl <| s_fieldAddr h rfl U32 rfl ti22 rfl rfl fun a h=>s_on h rfl rfl rfl <| s_load h rfl rfl (hS.load_one (p := 1) rfl U22 rfl rfl) fun a h=>s_on h rfl rfl rfl <| s_len h rfl U22 rfl hp0_2 fun a h=>s_on h rfl rfl rfl <| s_cmp (b := decide ((x0.Need.length : Int) > 8)) h rfl rfl rfl (.inr (.inr (.inr (.inr (.inl ⟨rfl, rfl⟩))))) fun a h=>?_
  refine s_on h rfl rfl rfl <| mv h rfl fun a h=>?_
  obtain ⟨hc_6, H⟩ | ⟨hc_6, H⟩ := ii H
  ·refine s_on h rfl rfl (dt hc_6) <| s_fieldAddr h rfl U32 rfl ti3 rfl rfl fun a h=>s_on h rfl rfl (dt hc_6) <| s_load h rfl rfl (hS.load_one (p := 1) rfl U3 rfl rfl) fun a h=>s_on h rfl rfl (dt hc_6) <| s_cmp (b := (x0.Kind == 7)) h rfl rfl rfl (.inl ⟨rfl, rfl⟩) fun a h=>s_on h rfl rfl rfl <| pt h rfl (dt hc_6) fun a h=>pf h rfl rfl fun a h=>mv h rfl fun a h=>?_
   obtain ⟨hc_7, H⟩ | ⟨hc_7, H⟩ := ii H
   ·refine of h rfl rfl (bt hc_7) fun a h=>of h rfl rfl (bt hc_7) fun a h=>of h rfl rfl (bt hc_7) fun a h=>of h rfl rfl (bt hc_7) fun a h=>of h rfl rfl (bt hc_7) fun a h=>s_offu h rfl rfl rfl fun a h=>s_offu h rfl rfl rfl fun a h=>s_offu h rfl rfl rfl fun a h=>of h rfl rfl (bt hc_7) fun a h=>pt h rfl (bt hc_7) fun a h=>sg h rfl fun a h=>wpList_nil <| x_then_n (hKJ_1 _ _ ?_)
    refine wp_ret ?_
    obtain rfl := Option.some.inj H
    exact r1 h 2 rfl rfl ⟨_, rfl, Mem.no, rfl, (hS.sel [0] (by decide))⟩
   ·refine s_on h rfl rfl (bf hc_7) <| s_fieldAddr h rfl U32 rfl ti26 rfl rfl fun a h=>s_on h rfl rfl (bf hc_7) <| s_load h rfl rfl (hS.load_one (p := 1) rfl U26 rfl rfl) fun a h=>s_on h rfl rfl (bf hc_7) <| s_len h rfl U26 rfl hp0_0 fun a h=>s_on h rfl rfl (bf hc_7) <| s_cmp (b := decide ((x0.Data.length : Int) > 64)) h rfl rfl rfl (.inr (.inr (.inr (.inr (.inl ⟨rfl, rfl⟩))))) fun a h=>s_on h rfl rfl (bf hc_7) <| mv h rfl fun a h=>?_
    obtain ⟨hc_8, H⟩ | ⟨hc_8, H⟩ := ii H
    ·refine s_on h rfl rfl (dt hc_8) <| s_fieldAddr h rfl U32 rfl ti3 rfl rfl fun a h=>s_on h rfl rfl (dt hc_8) <| s_load h rfl rfl (hS.load_one (p := 1) rfl U3 rfl rfl) fun a h=>s_on h rfl rfl (dt hc_8) <| s_cmp (b := (x0.Kind == 5)) h rfl rfl rfl (.inl ⟨rfl, rfl⟩) fun a h=>s_on h rfl rfl (bf hc_7) <| pt h rfl (dt hc_8) fun a h=>pf h rfl (bf hc_7) fun a h=>sg h rfl fun a h=>wpList_nil <| x_then_n (hKJ_1 _ _ ?_)
     refine wp_ret ?_
     obtain rfl := Option.some.inj H
     exact r1 h 2 rfl rfl ⟨_, rfl, Mem.no, rfl, (hS.sel [0] (by decide))⟩
    ·refine of h rfl rfl (df hc_8) fun a h=>of h rfl rfl (df hc_8) fun a h=>of h rfl rfl (df hc_8) fun a h=>s_on h rfl rfl (bf hc_7) <| pf h rfl (df hc_8) fun a h=>pf h rfl (bf hc_7) fun a h=>sg h rfl fun a h=>wpList_nil <| x_then_n (hKJ_1 _ _ ?_)
     refine wp_ret ?_
     obtain rfl := Option.some.inj H
     exact r1 h 2 rfl rfl ⟨_, rfl, Mem.no, rfl, (hS.sel [0] (by decide))⟩
  ·refine of h rfl rfl (df hc_6) fun a h=>of h rfl rfl (df hc_6) fun a h=>of h rfl rfl (df hc_6) fun a h=>s_on h rfl rfl rfl <| pf h rfl (df hc_6) fun a h=>pf h rfl rfl fun a h=>mv h rfl fun a h=>s_on h rfl rfl rfl <| s_fieldAddr h rfl U32 rfl ti26 rfl rfl fun a h=>s_on h rfl rfl rfl <| s_load h rfl rfl (hS.load_one (p := 1) rfl U26 rfl rfl) fun a h=>s_on h rfl rfl rfl <| s_len h rfl U26 rfl hp0_0 fun a h=>?_
   refine s_on h rfl rfl rfl <| s_cmp (b := decide ((x0.Data.length : Int) > 64)) h rfl rfl rfl (.inr (.inr (.inr (.inr (.inl ⟨rfl, rfl⟩))))) fun a h=>s_on h rfl rfl rfl <| mv h rfl fun a h=>?_
   obtain ⟨hc_9, H⟩ | ⟨hc_9, H⟩ := ii H
   ·refine s_on h rfl rfl (dt hc_9) <| s_fieldAddr h rfl U32 rfl ti3 rfl rfl fun a h=>s_on h rfl rfl (dt hc_9) <| s_load h rfl rfl (hS.load_one (p := 1) rfl U3 rfl rfl) fun a h=>s_on h rfl rfl (dt hc_9) <| s_cmp (b := (x0.Kind == 5)) h rfl rfl rfl (.inl ⟨rfl, rfl⟩) fun a h=>s_on h rfl rfl rfl <| pt h rfl (dt hc_9) fun a h=>pf h rfl rfl fun a h=>sg h rfl fun a h=>wpList_nil <| x_then_n (hKJ_1 _ _ ?_)
    refine wp_ret ?_
    obtain rfl := Option.some.inj H
    exact r1 h 2 rfl rfl ⟨_, rfl, Mem.no, rfl, (hS.sel [0] (by decide))⟩
   ·refine of h rfl rfl (df hc_9) fun a h=>of h rfl rfl (df hc_9) fun a h=>of h rfl rfl (df hc_9) fun a h=>s_on h rfl rfl rfl <| pf h rfl (df hc_9) fun a h=>pf h rfl rfl fun a h=>sg h rfl fun a h=>wpList_nil <| x_then_n (hKJ_1 _ _ ?_)
    refine wp_ret ?_
    obtain rfl := Option.some.inj H
    exact r1 h 2 rfl rfl ⟨_, rfl, Mem.no, rfl, (hS.sel [0] (by decide))⟩

set_option maxHeartbeats 4000000 in
set_option maxRecDepth 20000 in
theorem mesg_flag.calls (x0 : Bool) (r : Int) (w0 w : World) (Z A : Mem) (hA : A.le Z) (hS : Sep w0 w [] Z)
    (H : mesg_flag.f x0 = some r) :
    Calls Try.prog 65 [.bool x0].toArray w (Ret fun v w' => ∃ (N : Mem), v = iV r ∧ Sep w0 w' [N] Z) := by
 unfold mesg_flag.f at H
 refine f_enter _ Try.func65 rfl Try.ntmps65 rfl fun a h=>?_
 replace h : Fr 4 a [(0, .bool x0)] := h
 replace hS := hS.start
 refine qr <| sg h rfl fun a h=>nx <| c_seq fun KJ_1 hKJ_1 => qr <| mv h rfl fun a h=>wpList_nil <| x_then_n ?_
 obtain ⟨hc_1, H⟩ | ⟨hc_1, H⟩ := ii H
 ·refine c_cond_t h rfl hc_1 <| qr <| sg h rfl fun a h=>nx <| wp_ret (x_then_r ?_)
  obtain rfl := Option.some.inj H
  exact r1 h 2 rfl rfl ⟨_, rfl, Mem.no, rfl, (hS.sel [0] (by decide))⟩
 ·refine c_cond_f h rfl (ef hc_1) <| wp_skip <| x_then_n (hKJ_1 _ _ ?_)
  refine qr <| sg h rfl fun a h=>nx <| wp_ret ?_
  obtain rfl := Option.some.inj H
  exact r1 h 2 rfl rfl ⟨_, rfl, Mem.no, rfl, (hS.sel [0] (by decide))⟩

set_option maxHeartbeats 4000000 in
theorem slices_Clone_sbyte_byte.calls (x0 : List UInt8) (p0_0 : Value) (r : List UInt8) (w0 w : World) (Z A : Mem) (hA : A.le Z) (hS : Sep w0 w [] Z) (hp0_0 : Rd Kd.u8 A p0_0 x0)
    (H : slices_Clone_sbyte_byte.f x0 = some r) :
    Calls Try.prog 30 [p0_0].toArray w (Ret fun v w' => ∃ (u0 : Value) (N : Mem) (M0 : Mem), v = u0 ∧ Sep w0 w' [N, M0] Z ∧ Own Kd.u8 5 M0 Mem.no u0 r) := by
  unfold slices_Clone_sbyte_byte.f at H
  refine f_enter _ Try.func30 rfl Try.ntmps30 rfl fun a hm => ?_
  replace hm : Fr 8 a [(0, p0_0)] := hm
  replace hS := hS.start
  replace hS : Sep w0 w [Mem.no] Z := hS
  refine wp_seq ?_
  refine wp_region_lit ?_
  refine s_assign hm rfl rfl ?_
  clear hm a; intro a hm
  refine wpList_nil ?_
  replace hm : Fr 8 a [(0, p0_0)] := hm.keep [0]
  refine x_then_n ?_
  refine c_seq fun KJ hKJ => ?_
  refine wp_seq ?_
  refine wp_region_lit ?_
  refine s_move hm rfl rfl ?_
  clear hm a; intro a hm
  refine s_slNil hm rfl Try.underlying26 rfl hp0_0 fun b hb => ?_
  clear hm a; intro a hm
  refine wpList_nil ?_
  refine x_then_n ?_
  cases b with
  | true =>
    have hx := hb rfl
    subst hx
    refine c_cond_t hm rfl rfl ?_
    refine wp_seq ?_
    refine wp_region_lit ?_
    refine s_assign hm rfl rfl ?_
    clear hm a; intro a hm
    refine wpList_nil ?_
    replace hm : Fr 8 a [(2, .slice none 0 0)] := hm.keep [2]
    refine x_then_n ?_
    refine wp_ret (x_then_r ?_)
    obtain rfl := (app_some H).2
    replace hS := hS.room
    exact f_ret hm (rs := [.tmp 2]) rfl (.tmp rfl .nil) ⟨_, rfl, _, Mem.no, Mem.no, rfl, hS, Own.nil _ _ _⟩
  | false =>
    refine c_cond_f hm rfl rfl ?_
    refine wp_skip ?_
    refine x_then_n (hKJ _ _ ?_)
    refine wp_seq ?_
    refine wp_region_lit ?_
    have hq5 : Reps Kd.u8 Mem.no ([] : List UInt8) _ := (Reps.nil Kd.u8 _)
    refine s_buildSlice hm rfl Try.underlying26 ti5 rfl rfl rfl .nil rfl rfl rfl hS hq5 rfl ?_
    intro w1 v2 M3 hS' ho4
    clear hm a; intro a hm
    replace hS : Sep w0 w1 [Mem.no, M3] Z := hS'
    clear hS' hq5
    refine s_move hm rfl rfl ?_
    clear hm a; intro a hm
    refine s_append (J := Mem.no) (I' := Mem.no) (p := 1) 140737488355328 hm rfl rfl rfl Try.underlying26 ti5 rfl rfl rfl rfl hS rfl ho4 (Src.flat flat_u8 (hp0_0.src (hA.trans hS.old))) mr mr H ?_
    intro w8 v9 M10 hS' ho11
    clear hm a; intro a hm
    refine s_assign hm rfl rfl ?_
    clear hm a; intro a hm
    refine wpList_nil ?_
    replace hm : Fr 8 a [(2, v9)] := hm.keep [2]
    refine x_then_n ?_
    refine wp_ret ?_
    exact f_ret hm (rs := [.tmp 2]) rfl (.tmp rfl .nil) ⟨_, rfl, _, Mem.no, M10, rfl, hS', ho11⟩

set_option maxHeartbeats 4000000 in
theorem slices_Clip_sbyte_byte.calls (v : Value) (w : World) (hf : ∃ A l c, v = .slice A l c ∧ l ≤ c) : Calls Try.prog 77 [v].toArray w (Ret fun u w' => w = w' ∧ Clipped v u) := by
  obtain ⟨A, l, c, rfl, hlc⟩ := hf
  refine f_enter _ Try.func77 rfl Try.ntmps77 rfl fun a hm => ?_
  replace hm : Fr 9 a [(0, .slice A l c)] := hm
  refine wp_seq ?_
  refine wp_region_lit ?_
  refine s_assign hm rfl rfl ?_
  clear hm a; intro a hm
  refine wpList_nil ?_
  refine x_then_n ?_
  refine wp_seq ?_
  refine wp_region_lit ?_
  refine s_move hm rfl rfl ?_
  clear hm a; intro a hm
  refine s_move hm rfl rfl ?_
  clear hm a; intro a hm
  refine s_lenV hm rfl Try.underlying26 rfl ?_
  clear hm a; intro a hm
  refine s_move hm rfl rfl ?_
  clear hm a; intro a hm
  refine s_lenV hm rfl Try.underlying26 rfl ?_
  clear hm a; intro a hm
  refine s_clip hm rfl Try.underlying26 ti5 rfl rfl rfl hlc ?_
  clear hm a; intro a hm
  refine s_assign hm rfl rfl ?_
  clear hm a; intro a hm
  refine wpList_nil ?_
  refine x_then_n ?_
  refine wp_ret ?_
  exact f_ret hm (rs := [.tmp 2]) rfl (.tmp rfl .nil) ⟨_, rfl, rfl, A, l, c, rfl, rfl⟩

set_option maxHeartbeats 4000000 in
set_option maxRecDepth 20000 in
theorem pack_held.calls (x0 : Int) (r : Int) (w0 w : World) (Z A : Mem) (hA : A.le Z) (hS : Sep w0 w [] Z)
    (H : pack_held.f x0 = some r) :
    Calls Try.prog 78 [iV x0].toArray w (Ret fun v w' => ∃ (N : Mem), v = iV r ∧ Sep w0 w' [N] Z) := by
 unfold pack_held.f at H
 refine f_enter _ Try.func78 rfl Try.ntmps78 rfl fun a h=>?_
 replace h : Fr 6 a [(0, iV x0)] := h
 replace hS := hS.start
 refine qr <| sg h rfl fun a h=>nx <| qr <| mv h rfl fun a h=>s_max h rfl rfl rfl fun a h=>s_min h rfl rfl rfl fun a h=>sg h rfl fun a h=>wpList_nil <| x_then_n ?_
 refine wp_ret ?_
 obtain rfl := Option.some.inj H
 exact r1 h 2 rfl rfl ⟨_, rfl, Mem.no, rfl, (hS.sel [0] (by decide))⟩

set_option maxHeartbeats 4000000 in
set_option maxRecDepth 20000 in
theorem pack_Num.calls (K : Nat) (x0 : List UInt8) (p0_0 : Value) (x1 : Int) (r : (List UInt8)) (w0 w : World) (Z A : Mem) (hA : A.le Z) (hS : Sep w0 w [] Z) (hp0_0 : Rd Kd.u8 A p0_0 x0)
    (H : pack_Num.f K x0 x1 = some r) :
    Calls Try.prog 64 [p0_0, iV x1].toArray w (Ret fun v w' => ∃ (u0 : Value) (N : Mem) (M0 : Mem), v = u0 ∧ Sep w0 w' [N, M0] Z ∧ Own Kd.u8 5 M0 Mem.no u0 r) := by
 unfold pack_Num.f at H
 refine f_enter _ Try.func64 rfl Try.ntmps64 rfl fun a h=>?_
 replace h : Fr 27 a [(0, p0_0), (1, iV x1)] := h
 replace hS := hS.start
 refine qr <| sg h rfl fun a h=>nx <| qr <| mv h rfl fun a h=>?_
 obtain ⟨t_1, et_1, H⟩ := bs H
 refine s_call h rfl Try.call30 rfl (slices_Clone_sbyte_byte.calls x0 _ t_1 w0 _ _ _ mr (hS.enter [] (by decide)) (hp0_0.mono (hA.trans (hS.le_zed []))) et_1) ?_
 rintro v_1 w_1 ⟨_, N_1, M_1, rfl, hS', hr_1⟩
 intro a h
 obtain ⟨N_2, hS'', le_1, ln_1⟩ := hS.call [] (by decide) rfl (l' := []) (ow := [_]) rfl hS'
 replace hS : Sep w0 w_1 [N_2, _] Z := hS''
 refine s_call h rfl Try.call77 rfl (slices_Clip_sbyte_byte.calls _ _ hr_1.slform) ?_
 rintro v_2 _ ⟨rfl, hk_1⟩
 intro a h
 refine sg h rfl fun a h=>nx <| c_seq fun KJ_1 hKJ_1 => qr <| mv h rfl fun a h=>?_
 obtain ⟨t_2, et_2, H⟩ := bs H
 refine s_call h rfl Try.call78 rfl (pack_held.calls x1 t_2 w0 _ _ _ mr (hS.enter [] (by decide))  et_2) ?_
 rintro _ w_2 ⟨N_3, rfl, hS'⟩
 intro a h
 obtain ⟨N_4, hS'', le_2, ln_2⟩ := hS.call [] (by decide) rfl (l' := []) (ow := []) rfl hS'
 replace hS : Sep w0 w_2 [N_4, _] Z := hS''
 refine sg h rfl fun a h=>wpList_nil <| x_then_n ?_
 have hJ_j_1 : ∀ (x_1 : Int), ∀ (x_2 : List UInt8), pack_Num.J1 K x_1 x_2 = some r → ∀ (a : Act) (w_3 : World), (∃ (v_3 : Value) (N_5 : Mem) (M_2 : Mem), Fr 27 a [(1, iV x_1), (4, nS), (5, v_3)] ∧ Sep w0 w_3 [N_5, M_2] Z ∧ N_4.le N_5 ∧ Own Kd.u8 5 M_2 Mem.no v_3 x_2) → KJ_1 a w_3 := by
  clear H h hS a
  rintro x_1 x_2 H a w_3 ⟨v_3, N_5, M_2, h, hS, le_3, ho_1⟩
  unfold pack_Num.J1 at H
  refine hKJ_1 _ _ <| qr <| mv h rfl fun a h=>mv h rfl fun a h=>s_conv (((toU8 x_1).toNat : Int)) h rfl U3 U5 rfl (wrap_u8 _).symm fun a h=>?_
  have hq_1 : Reps Kd.u8 Mem.no ([toU8 x_1] : List UInt8) _ := ((Reps.one (d := Kd.u8) (x := toU8 x_1) (show Kd.u8.K _ _ [.int .u8 ((toU8 x_1).toNat : Int)] from rfl)).append (Reps.nil Kd.u8 _))
  refine s_buildSlice h rfl U26 ti5 rfl rfl rfl (.cons rfl .nil) rfl rfl rfl hS hq_1 rfl fun w_4 v_4 M_3 hS' ho_2 a h => ?_
  replace hS : Sep w0 w_4 [_, _, M_3] Z := hS'
  obtain ⟨t_3, et_3, H⟩ := bs H
  refine s_append (J := Mem.no) (I' := Mem.no) (p := 1) 140737488355328 h rfl rfl rfl U26 ti5 rfl rfl rfl rfl hS rfl ho_1 (Src.flat flat_u8 (ho_2.src (hS.own 2))) mr mr et_3 fun w_5 v_5 M_4 hS' ho_3 a h => ?_
  replace hS : Sep w0 w_5 [_, M_4, _] Z := hS'
  refine sg h rfl fun a h=>wpList_nil ?_
  replace h : Fr 27 a [(4, v_5)] := h.keep [4]
  refine x_then_n <| wp_ret ?_
  obtain rfl := Option.some.inj H
  exact r1 h 4 rfl rfl ⟨_, rfl, v_5, N_5, M_4, rfl, (hS.sel [0, 1] (by decide)), ho_3⟩
 clear hKJ_1
 refine c_block <| c_loop (fun k_1 a w_6 => ∃ (x_3 : Int) (x_4 : List UInt8) (v_6 : Value) (N_6 : Mem) (M_5 : Mem), pack_Num.L1 K (fun v => pack_Num.J1 K v.1 v.2) k_1 (x_3, x_4) = some r ∧ Fr 27 a [(1, iV x_3), (4, nS), (5, v_6)] ∧ Sep w0 w_6 [N_6, M_5] Z ∧ N_4.le N_6 ∧ Own Kd.u8 5 M_5 Mem.no v_6 x_4) K ⟨t_2, t_1, v_2, N_4, M_1, H, (h.keep [1, 4, 5]), (hS.sel [0, 1] (by decide)), mr, (hr_1.clip hk_1)⟩ (fun a w h => by obtain ⟨_, _, _, _, _, H, _⟩ := h; cases (show (none : Option ((List UInt8))) = some r from H)) ?_
 clear h hS a H
 rintro k_1 a w_6 KL_1 hKL_1 ⟨x_3, x_4, v_6, N_6, M_5, H, h, hS, le_4, ho_4⟩
 replace H : pack_Num.B1 K (fun v => pack_Num.J1 K v.1 v.2) (pack_Num.L1 K (fun v => pack_Num.J1 K v.1 v.2) k_1) x_3 x_4 = some r := H
 unfold pack_Num.B1 at H
 refine c_seq fun KJ_2 hKJ_2 => qr <| mv h rfl fun a h=>s_cmp (b := decide (x_3 ≥ 128)) h rfl rfl rfl (.inr (.inr (.inr (.inr (.inr ⟨rfl, rfl⟩))))) fun a h=>wpList_nil ?_
 replace h : Fr 27 a [(1, _), (4, _), (5, _), (12, .bool (decide (x_3 ≥ 128)))] := h.keep [1, 4, 5, 12]
 refine x_then_n ?_
 obtain ⟨hc_1, H⟩ | ⟨hc_1, H⟩ := ii H
 ·refine c_cond_t h rfl (dt hc_1) <| wp_skip <| x_then_n (hKJ_2 _ _ ?_)
  refine wp_seq <| c_block <| wp_region_lit <| mv h rfl fun a h=>mv h rfl fun a h=>s_bits (i := x_3) (j := 127) (r := band .i64 x_3 127) h rfl rfl rfl (.inl ⟨rfl, rfl⟩) fun a h=>s_bits (i := band .i64 x_3 127) (j := 128) (r := bor .i64 (band .i64 x_3 127) 128) h rfl rfl rfl (.inr (.inl ⟨rfl, rfl⟩)) fun a h=>s_conv (((toU8 (bor .i64 (band .i64 x_3 127) 128)).toNat : Int)) h rfl U3 U5 rfl (wrap_u8 _).symm fun a h=>?_
  have hq_2 : Reps Kd.u8 Mem.no ([toU8 (bor .i64 (band .i64 x_3 127) 128)] : List UInt8) _ := ((Reps.one (d := Kd.u8) (x := toU8 (bor .i64 (band .i64 x_3 127) 128)) (show Kd.u8.K _ _ [.int .u8 ((toU8 (bor .i64 (band .i64 x_3 127) 128)).toNat : Int)] from rfl)).append (Reps.nil Kd.u8 _))
  refine s_buildSlice h rfl U26 ti5 rfl rfl rfl (.cons rfl .nil) rfl rfl rfl hS hq_2 rfl fun w_7 v_7 M_6 hS' ho_5 a h => ?_
  replace hS : Sep w0 w_7 [_, _, M_6] Z := hS'
  obtain ⟨t_4, et_4, H⟩ := bs H
  refine s_append (J := Mem.no) (I' := Mem.no) (p := 1) 140737488355328 h rfl rfl rfl U26 ti5 rfl rfl rfl rfl hS rfl ho_4 (Src.flat flat_u8 (ho_5.src (hS.own 2))) mr mr et_4 fun w_8 v_8 M_7 hS' ho_6 a h => ?_
  replace hS : Sep w0 w_8 [_, M_7, _] Z := hS'
  refine sg h rfl fun a h=>wpList_nil <| x_block_n <| x_then_n <| wp_region_lit <| mv h rfl fun a h=>s_shift (r := shr .i64 x_3 7) h rfl rfl rfl (by decide) (.inr ⟨rfl, rfl⟩) fun a h=>sg h rfl fun a h=>wpList_nil <| x_then_n (hKL_1 _ _ ?_)
  exact ⟨shr .i64 x_3 7, t_4, v_8, N_6, M_7, H, (h.keep [1, 4, 5]), (hS.sel [0, 1] (by decide)), le_4, ho_6⟩
 ·refine c_cond_f h rfl (df hc_1) <| wp_exit (x_then_x (x_then_x (x_block_t ?_)))
  exact x_then_n (hJ_j_1 x_3 x_4 H _ _ ⟨v_6, N_6, M_5, (h.keep [1, 4, 5]), (hS.sel [0, 1] (by decide)), le_4, ho_4⟩)

set_option maxHeartbeats 4000000 in
set_option maxRecDepth 20000 in
theorem pack_Bytes.calls (K : Nat) (x0 : List UInt8) (p0_0 : Value) (x1 : List UInt8) (p1_1 : Value) (r : (List UInt8)) (w0 w : World) (Z A : Mem) (hA : A.le Z) (hS : Sep w0 w [] Z) (hp0_0 : Rd Kd.u8 A p0_0 x0) (hp1_1 : Rd Kd.u8 A p1_1 x1)
    (H : pack_Bytes.f K x0 x1 = some r) :
    Calls Try.prog 66 [p0_0, p1_1].toArray w (Ret fun v w' => ∃ (u0 : Value) (N : Mem) (M0 : Mem), v = u0 ∧ Sep w0 w' [N, M0] Z ∧ Own Kd.u8 5 M0 Mem.no u0 r) := by
 unfold pack_Bytes.f at H
 refine f_enter _ Try.func66 rfl Try.ntmps66 rfl fun a h=>?_
 replace h : Fr 11 a [(0, p0_0), (1, p1_1)] := h
 replace hS := hS.start
 refine qr <| sg h rfl fun a h=>nx <| qr <| mv h rfl fun a h=>mv h rfl fun a h=>s_len h rfl U26 rfl hp1_1 fun a h=>?_
 obtain ⟨t_1, et_1, H⟩ := bs H
 refine s_call h rfl Try.call64 rfl (pack_Num.calls K x0 _ (x1.length : Int) t_1 w0 _ _ _ mr (hS.enter [] (by decide)) (hp0_0.mono (hA.trans (hS.le_zed []))) et_1) ?_
 rintro v_1 w_1 ⟨_, N_1, M_1, rfl, hS', hr_1⟩
 intro a h
 obtain ⟨N_2, hS'', le_1, ln_1⟩ := hS.call [] (by decide) rfl (l' := []) (ow := [_]) rfl hS'
 replace hS : Sep w0 w_1 [N_2, _] Z := hS''
 refine mv h rfl fun a h=>?_
 obtain ⟨t_2, et_2, H⟩ := bs H
 refine s_append (J := Mem.no) (I' := Mem.no) (p := 1) 140737488355328 h rfl rfl rfl U26 ti5 rfl rfl rfl rfl hS rfl hr_1 (Src.flat flat_u8 (hp1_1.src (hA.trans hS.old))) mr mr et_2 fun w_2 v_2 M_2 hS' ho_1 a h => ?_
 replace hS : Sep w0 w_2 [_, M_2] Z := hS'
 refine sg h rfl fun a h=>nx <| wp_ret ?_
 obtain rfl := Option.some.inj H
 exact r1 h 4 rfl rfl ⟨_, rfl, v_2, N_2, M_2, rfl, (hS.sel [0, 1] (by decide)), ho_1⟩

set_option maxHeartbeats 4000000 in
set_option maxRecDepth 20000 in
theorem mesg_row.calls (K : Nat) (x0 : List UInt8) (p0_0 : Value) (x1 : List Int) (p1_1 : Value) (r : (List UInt8)) (w0 w : World) (Z A : Mem) (hA : A.le Z) (hS : Sep w0 w [] Z) (hp0_0 : Rd Kd.u8 A p0_0 x0) (hp1_1 : Rd (Kd.int .i64) A p1_1 x1)
    (H : mesg_row.f K x0 x1 = some r) :
    Calls Try.prog 67 [p0_0, p1_1].toArray w (Ret fun v w' => ∃ (u0 : Value) (N : Mem) (M0 : Mem), v = u0 ∧ Sep w0 w' [N, M0] Z ∧ Own Kd.u8 5 M0 Mem.no u0 r) := by
 unfold mesg_row.f at H
 refine f_enter _ Try.func67 rfl Try.ntmps67 rfl fun a h=>?_
 replace h : Fr 22 a [(0, p0_0), (1, p1_1)] := h
 replace hS := hS.start
 refine qr <| sg h rfl fun a h=>nx <| qr <| mv h rfl fun a h=>mv h rfl fun a h=>s_len h rfl U22 rfl hp1_1 fun a h=>?_
 obtain ⟨t_1, et_1, H⟩ := bs H
 refine s_call h rfl Try.call64 rfl (pack_Num.calls K x0 _ (x1.length : Int) t_1 w0 _ _ _ mr (hS.enter [] (by decide)) (hp0_0.mono (hA.trans (hS.le_zed []))) et_1) ?_
 rintro v_1 w_1 ⟨_, N_1, M_1, rfl, hS', hr_1⟩
 intro a h
 obtain ⟨N_2, hS'', le_1, ln_1⟩ := hS.call [] (by decide) rfl (l' := []) (ow := [_]) rfl hS'
 replace hS : Sep w0 w_1 [N_2, _] Z := hS''
 refine sg h rfl fun a h=>nx <| c_seq fun KJ_1 hKJ_1 => qr <| mv h rfl fun a h=>s_len h rfl U22 rfl hp1_1 fun a h=>mv h rfl fun a h=>wpList_nil <| x_then_n ?_
 have hJ_j_1 : ∀ (x_1 : List UInt8), mesg_row.J1 K x_1 = some r → ∀ (a : Act) (w_2 : World), (∃ (v_2 : Value) (N_3 : Mem) (M_2 : Mem), Fr 22 a [(0, v_2), (4, nS)] ∧ Sep w0 w_2 [N_3, Mem.no, M_2] Z ∧ N_2.le N_3 ∧ Own Kd.u8 5 M_2 Mem.no v_2 x_1) → KJ_1 a w_2 := by
  clear H h hS a
  rintro x_1 H a w_2 ⟨v_2, N_3, M_2, h, hS, le_2, ho_1⟩
  unfold mesg_row.J1 at H
  refine hKJ_1 _ _ <| qr <| mv h rfl fun a h=>sg h rfl fun a h=>wpList_nil ?_
  replace h : Fr 22 a [(4, v_2)] := h.keep [4]
  refine x_then_n <| wp_ret ?_
  obtain rfl := Option.some.inj H
  exact r1 h 4 rfl rfl ⟨_, rfl, v_2, N_3, M_2, rfl, (hS.sel [0, 2] (by decide)), ho_1⟩
 clear hKJ_1
 refine c_block <| c_loop (fun k_1 a w_3 => ∃ (x_2 : List UInt8) (x_3 : Int) (v_3 : Value) (N_4 : Mem) (M_3 : Mem), mesg_row.L1 K x1 (fun v => mesg_row.J1 K v) k_1 (x_2, x_3) = some r ∧ Fr 22 a [(0, v_3), (4, nS), (11, p1_1), (12, iV (x1.length : Int)), (13, iV x_3)] ∧ Sep w0 w_3 [N_4, Mem.no, M_3] Z ∧ N_2.le N_4 ∧ Own Kd.u8 5 M_3 Mem.no v_3 x_2) K ⟨t_1, 0, v_1, N_2, M_1, H, (h.keep [0, 4, 11, 12, 13]), (hS.sel [0, 1000, 1] (by decide)), mr, hr_1⟩ (fun a w h => by obtain ⟨_, _, _, _, _, H, _⟩ := h; cases (show (none : Option ((List UInt8))) = some r from H)) ?_
 clear h hS a H
 rintro k_1 a w_3 KL_1 hKL_1 ⟨x_2, x_3, v_3, N_4, M_3, H, h, hS, le_3, ho_2⟩
 replace H : mesg_row.B1 K x1 (fun v => mesg_row.J1 K v) (mesg_row.L1 K x1 (fun v => mesg_row.J1 K v) k_1) x_2 x_3 = some r := H
 unfold mesg_row.B1 at H
 refine qr <| s_cmp (b := decide (x_3 < (x1.length : Int))) h rfl rfl rfl (.inr (.inr (.inl ⟨rfl, rfl⟩))) fun a h=>wpList_nil ?_
 replace h : Fr 22 a [(0, _), (4, _), (11, _), (12, _), (13, _), (14, .bool (decide (x_3 < (x1.length : Int))))] := h.keep [0, 4, 11, 12, 13, 14]
 refine x_then_n <| c_seq fun KJ_2 hKJ_2 => ?_
 obtain ⟨hc_1, H⟩ | ⟨hc_1, H⟩ := ii H
 ·refine c_cond_t h rfl (dt hc_1) <| wp_skip <| x_then_n (hKJ_2 _ _ ?_)
  refine wp_seq <| c_block <| wp_seq <| wp_region_lit ?_
  obtain ⟨t_2, et_2, H⟩ := bs H
  refine v_index h rfl U22 ti3 rfl rfl rfl hp1_1 (hA.trans hS.old) et_2 fun ad_1 cs_1 hk_1 hc_2 => ?_
  obtain rfl := (show cs_1 = [iV t_2] from hk_1)
  intro a h
  refine s_load h rfl rfl (el_one (o := 0) hc_2 U3 rfl rfl) fun a h=>sg h rfl fun a h=>nx <| wp_region_lit <| mv h rfl fun a h=>mv h rfl fun a h=>?_
  obtain ⟨t_3, et_3, H⟩ := bs H
  refine s_call h rfl Try.call64 rfl (pack_Num.calls K x_2 _ t_2 t_3 w0 _ _ _ mr (hS.enter [] (by decide)) (ho_2.rd (hS.own_zed [] 1 (by decide)) (Mem.no_le _)) et_3) ?_
  rintro v_4 w_4 ⟨_, N_5, M_4, rfl, hS', hr_2⟩
  intro a h
  obtain ⟨N_6, hS'', le_4, ln_2⟩ := hS.call [] (by decide) rfl (l' := []) (ow := [_]) rfl hS'
  replace hS : Sep w0 w_4 [N_6, _, _, _] Z := hS''
  refine sg h rfl fun a h=>wpList_nil <| x_block_n <| x_then_n <| wp_region_lit <| s_arith (r := w64 (x_3 + 1)) h rfl rfl rfl (.inl ⟨rfl, rfl⟩) fun a h=>mv h rfl fun a h=>wpList_nil <| x_then_n (hKL_1 _ _ ?_)
  exact ⟨t_3, w64 (x_3 + 1), v_4, N_6, M_4, H, (h.keep [0, 4, 11, 12, 13]), (hS.sel [0, 1000, 3] (by decide)), (le_3.trans le_4), hr_2⟩
 ·refine c_cond_f h rfl (df hc_1) <| wp_exit (x_then_x (x_then_x (x_block_t ?_)))
  exact x_then_n (hJ_j_1 x_2 H _ _ ⟨v_3, N_4, M_3, (h.keep [0, 4]), (hS.sel [0, 1000, 2] (by decide)), le_3, ho_2⟩)

set_option maxHeartbeats 4000000 in
set_option maxRecDepth 20000 in
theorem mach_PutEntry.calls (K : Nat) (x0 : List UInt8) (p0_0 : Value) (x1 : api_Entry) (p1_1 : Value) (p1_2 : Value) (p1_3 : Value) (r : (List UInt8)) (w0 w : World) (Z A : Mem) (hA : A.le Z) (hS : Sep w0 w [] Z) (hp0_0 : Rd Kd.u8 A p0_0 x0) (hp1_1 : Rd Kd.u8 A p1_1 x1.Cmd.Key) (hp1_2 : Rd Kd.u8 A p1_2 x1.Cmd.Val) (hp1_3 : Rd Kd.u8 A p1_3 x1.Cmd.Old)
    (H : mach_PutEntry.f K x0 x1 = some r) :
    Calls Try.prog 68 [p0_0, .agg (E30 x1 p1_1 p1_2 p1_3).toArray].toArray w (Ret fun v w' => ∃ (u0 : Value) (N : Mem) (M0 : Mem), v = u0 ∧ Sep w0 w' [N, M0] Z ∧ Own Kd.u8 5 M0 Mem.no u0 r) := by
 unfold mach_PutEntry.f at H
 refine f_enter _ Try.func68 rfl Try.ntmps68 rfl fun a h=>?_
 replace h : Fr 49 a [(0, p0_0), (1, .agg (E30 x1 p1_1 p1_2 p1_3).toArray)] := h
 replace hS := hS.start
 refine qr <| v_box (vs := (E30 x1 p1_1 p1_2 p1_3)) h rfl rfl rfl hS fun w_1 g_1 hS' a h => ?_
 replace hS : Sep w0 w_1 [_, bx g_1 30 (E30 x1 p1_1 p1_2 p1_3)] Z := hS'
 refine sg h rfl fun a h=>nx <| c_seq fun KJ_1 hKJ_1 => qr <| s_fieldAddr h rfl U30 rfl ti3 rfl rfl fun a h=>s_load h rfl rfl (hS.load_one (p := 1) rfl U3 rfl rfl) fun a h=>s_fieldAddr h rfl U30 rfl ti3 rfl rfl fun a h=>s_load h rfl rfl (hS.load_one (p := 1) rfl U3 rfl rfl) fun a h=>s_fieldAddr h rfl U30 rfl ti28 rfl rfl fun a h=>s_fieldAddr h rfl U28 rfl ti3 rfl rfl fun a h=>?_
 refine s_load h rfl rfl (hS.load_one (p := 1) rfl U3 rfl rfl) fun a h=>s_fieldAddr h rfl U30 rfl ti28 rfl rfl fun a h=>s_fieldAddr h rfl U28 rfl ti3 rfl rfl fun a h=>s_load h rfl rfl (hS.load_one (p := 1) rfl U3 rfl rfl) fun a h=>?_
 have hq_1 : Reps (Kd.int .i64) Mem.no ([x1.Sess, x1.Seq, x1.Cmd.Kind, x1.Cmd.Who] : List Int) _ := ((Reps.one (d := (Kd.int .i64)) (x := x1.Sess) (show (Kd.int .i64).K _ _ [iV x1.Sess] from rfl)).append ((Reps.one (d := (Kd.int .i64)) (x := x1.Seq) (show (Kd.int .i64).K _ _ [iV x1.Seq] from rfl)).append ((Reps.one (d := (Kd.int .i64)) (x := x1.Cmd.Kind) (show (Kd.int .i64).K _ _ [iV x1.Cmd.Kind] from rfl)).append ((Reps.one (d := (Kd.int .i64)) (x := x1.Cmd.Who) (show (Kd.int .i64).K _ _ [iV x1.Cmd.Who] from rfl)).append (Reps.nil (Kd.int .i64) _)))))
 refine s_buildSlice h rfl U22 ti3 rfl rfl rfl (.cons rfl (.cons rfl (.cons rfl (.cons rfl .nil)))) rfl rfl rfl hS hq_1 rfl fun w_2 v_1 M_1 hS' ho_1 a h => ?_
 replace hS : Sep w0 w_2 [_, _, M_1] Z := hS'
 refine s_lenO h rfl U22 rfl ho_1 fun a h=>mv h rfl fun a h=>wpList_nil <| x_then_n ?_
 have hJ_j_1 : ∀ (x_1 : List UInt8), mach_PutEntry.J1 K x1 x_1 = some r → ∀ (a : Act) (w_3 : World), (∃ (v_2 : Value) (N_1 : Mem) (M_2 : Mem), Fr 49 a [(0, v_2), (3, .pointer (some ⟨g_1, 0, none⟩)), (4, nS)] ∧ Sep w0 w_3 [N_1, bx g_1 30 (E30 x1 p1_1 p1_2 p1_3), Mem.no, M_2] Z ∧ Mem.no.le N_1 ∧ Own Kd.u8 5 M_2 Mem.no v_2 x_1) → KJ_1 a w_3 := by
  clear H h hS a
  rintro x_1 H a w_3 ⟨v_2, N_1, M_2, h, hS, le_1, ho_2⟩
  unfold mach_PutEntry.J1 at H
  refine hKJ_1 _ _ <| c_seq fun KJ_2 hKJ_2 => qr <| s_fieldAddr h rfl U30 rfl ti28 rfl rfl fun a h=>s_fieldAddr h rfl U28 rfl ti26 rfl rfl fun a h=>s_load h rfl rfl (hS.load_one (p := 1) rfl U26 rfl rfl) fun a h=>s_fieldAddr h rfl U30 rfl ti28 rfl rfl fun a h=>s_fieldAddr h rfl U28 rfl ti26 rfl rfl fun a h=>s_load h rfl rfl (hS.load_one (p := 1) rfl U26 rfl rfl) fun a h=>s_fieldAddr h rfl U30 rfl ti28 rfl rfl fun a h=>s_fieldAddr h rfl U28 rfl ti26 rfl rfl fun a h=>?_
  refine s_load h rfl rfl (hS.load_one (p := 1) rfl U26 rfl rfl) fun a h=>?_
  have hq_2 : Reps (Kd.slice Kd.u8) (A.un N_1) ([x1.Cmd.Key, x1.Cmd.Val, x1.Cmd.Old] : List (List UInt8)) _ := ((Reps.one (d := (Kd.slice Kd.u8)) (x := x1.Cmd.Key) ⟨_, rfl, (hp1_1.mono (Mem.le_un _ _))⟩).append ((Reps.one (d := (Kd.slice Kd.u8)) (x := x1.Cmd.Val) ⟨_, rfl, (hp1_2.mono (Mem.le_un _ _))⟩).append ((Reps.one (d := (Kd.slice Kd.u8)) (x := x1.Cmd.Old) ⟨_, rfl, (hp1_3.mono (Mem.le_un _ _))⟩).append (Reps.nil (Kd.slice Kd.u8) _))))
  refine s_buildSlice h rfl U93 ti26 rfl rfl rfl (.cons hp1_1.cells (.cons hp1_2.cells (.cons hp1_3.cells .nil))) rfl rfl rfl hS hq_2 rfl fun w_4 v_3 M_3 hS' ho_3 a h => ?_
  replace hS : Sep w0 w_4 [_, _, _, _, M_3] Z := hS'
  refine s_lenO h rfl U93 rfl ho_3 fun a h=>mv h rfl fun a h=>wpList_nil <| x_then_n ?_
  have hJ_j_2 : ∀ (x_2 : List UInt8), mach_PutEntry.J2 K x_2 = some r → ∀ (a : Act) (w_5 : World), (∃ (v_4 : Value) (N_2 : Mem) (M_4 : Mem), Fr 49 a [(0, v_4), (4, nS)] ∧ Sep w0 w_5 [N_2, Mem.no, Mem.no, Mem.no, Mem.no, M_4] Z ∧ N_1.le N_2 ∧ Own Kd.u8 5 M_4 Mem.no v_4 x_2) → KJ_2 a w_5 := by
   clear H h hS a
   rintro x_2 H a w_5 ⟨v_4, N_2, M_4, h, hS, le_2, ho_4⟩
   unfold mach_PutEntry.J2 at H
   refine hKJ_2 _ _ <| qr <| mv h rfl fun a h=>sg h rfl fun a h=>wpList_nil ?_
   replace h : Fr 49 a [(4, v_4)] := h.keep [4]
   refine x_then_n <| wp_ret ?_
   obtain rfl := Option.some.inj H
   exact r1 h 4 rfl rfl ⟨_, rfl, v_4, N_2, M_4, rfl, (hS.sel [0, 5] (by decide)), ho_4⟩
  clear hKJ_2
  refine c_block <| c_loop (fun k_1 a w_6 => ∃ (x_3 : List UInt8) (x_4 : Int) (v_5 : Value) (N_3 : Mem) (M_5 : Mem), mach_PutEntry.L1 K x1 (fun v => mach_PutEntry.J2 K v) k_1 (x_3, x_4) = some r ∧ Fr 49 a [(0, v_5), (4, nS), (38, v_3), (39, iV (([x1.Cmd.Key, x1.Cmd.Val, x1.Cmd.Old] : List (List UInt8)).length : Int)), (40, iV x_4)] ∧ Sep w0 w_6 [N_3, Mem.no, Mem.no, Mem.no, M_3, M_5] Z ∧ N_1.le N_3 ∧ Own Kd.u8 5 M_5 Mem.no v_5 x_3) K ⟨x_1, 0, v_2, N_1, M_2, H, (h.keep [0, 4, 38, 39, 40]), (hS.sel [0, 1000, 1001, 1002, 4, 3] (by decide)), mr, ho_2⟩ (fun a w h => by obtain ⟨_, _, _, _, _, H, _⟩ := h; cases (show (none : Option ((List UInt8))) = some r from H)) ?_
  clear h hS a H
  rintro k_1 a w_6 KL_1 hKL_1 ⟨x_3, x_4, v_5, N_3, M_5, H, h, hS, le_3, ho_5⟩
  replace H : mach_PutEntry.B1 K x1 (fun v => mach_PutEntry.J2 K v) (mach_PutEntry.L1 K x1 (fun v => mach_PutEntry.J2 K v) k_1) x_3 x_4 = some r := H
  unfold mach_PutEntry.B1 at H
  refine qr <| s_cmp (b := decide (x_4 < (([x1.Cmd.Key, x1.Cmd.Val, x1.Cmd.Old] : List (List UInt8)).length : Int))) h rfl rfl rfl (.inr (.inr (.inl ⟨rfl, rfl⟩))) fun a h=>wpList_nil ?_
  replace h : Fr 49 a [(0, _), (4, _), (38, _), (39, _), (40, _), (41, .bool (decide (x_4 < (([x1.Cmd.Key, x1.Cmd.Val, x1.Cmd.Old] : List (List UInt8)).length : Int))))] := h.keep [0, 4, 38, 39, 40, 41]
  refine x_then_n <| c_seq fun KJ_3 hKJ_3 => ?_
  obtain ⟨hc_1, H⟩ | ⟨hc_1, H⟩ := ii H
  ·refine c_cond_t h rfl (dt hc_1) <| wp_skip <| x_then_n (hKJ_3 _ _ ?_)
   refine wp_seq <| c_block <| wp_seq <| wp_region_lit ?_
   obtain ⟨t_1, et_1, H⟩ := bs H
   refine v_indexO h rfl U93 ti26 rfl rfl rfl ho_3 (hS.own 4) et_1 fun ad_1 cs_1 hk_1 hc_2 => ?_
   obtain ⟨v_6, rfl, hr_1⟩ := hk_1
   intro a h
   refine s_load h rfl rfl (el_one (o := 0) hc_2 U26 rfl rfl) fun a h=>sg h rfl fun a h=>nx <| wp_region_lit <| mv h rfl fun a h=>mv h rfl fun a h=>?_
   obtain ⟨t_2, et_2, H⟩ := bs H
   refine s_call h rfl Try.call66 rfl (pack_Bytes.calls K x_3 _ t_1 _ t_2 w0 _ _ _ mr (hS.enter [] (by decide)) (ho_5.rd (hS.own_zed [] 4 (by decide)) (Mem.no_le _)) (hr_1.mono (Mem.un_le (hA.trans (hS.le_zed [])) (le_3.trans (hS.new_zed [])))) et_2) ?_
   rintro v_7 w_7 ⟨_, N_4, M_6, rfl, hS', hr_2⟩
   intro a h
   obtain ⟨N_5, hS'', le_4, ln_1⟩ := hS.call [] (by decide) rfl (l' := []) (ow := [_]) rfl hS'
   replace hS : Sep w0 w_7 [N_5, _, _, _, _, _, _] Z := hS''
   refine sg h rfl fun a h=>wpList_nil <| x_block_n <| x_then_n <| wp_region_lit <| s_arith (r := w64 (x_4 + 1)) h rfl rfl rfl (.inl ⟨rfl, rfl⟩) fun a h=>mv h rfl fun a h=>wpList_nil <| x_then_n (hKL_1 _ _ ?_)
   exact ⟨t_2, w64 (x_4 + 1), v_7, N_5, M_6, H, (h.keep [0, 4, 38, 39, 40]), (hS.sel [0, 1000, 1001, 1002, 4, 6] (by decide)), (le_3.trans le_4), hr_2⟩
  ·refine c_cond_f h rfl (df hc_1) <| wp_exit (x_then_x (x_then_x (x_block_t ?_)))
   exact x_then_n (hJ_j_2 x_3 H _ _ ⟨v_5, N_3, M_5, (h.keep [0, 4]), (hS.sel [0, 1000, 1001, 1002, 1003, 5] (by decide)), le_3, ho_5⟩)
 clear hKJ_1
 refine c_block <| c_loop1 (fun k_2 a w_8 => ∃ (x_5 : List UInt8) (x_6 : Int) (v_8 : Value) (N_6 : Mem) (M_7 : Mem), mach_PutEntry.L2 K x1 (fun v => mach_PutEntry.J1 K x1 v) k_2 (x_5, x_6) = some r ∧ Fr 49 a [(0, v_8), (3, .pointer (some ⟨g_1, 0, none⟩)), (4, nS), (19, v_1), (20, iV (([x1.Sess, x1.Seq, x1.Cmd.Kind, x1.Cmd.Who] : List Int).length : Int)), (21, iV x_6)] ∧ Sep w0 w_8 [N_6, bx g_1 30 (E30 x1 p1_1 p1_2 p1_3), M_1, M_7] Z ∧ Mem.no.le N_6 ∧ Own Kd.u8 5 M_7 Mem.no v_8 x_5) K (fun KL_2 hKL_2 => ?_) (fun a w h => by obtain ⟨_, _, _, _, _, H, _⟩ := h; cases (show (none : Option ((List UInt8))) = some r from H)) ?_
 ·refine qr <| s_cmp (b := true) h rfl rfl rfl (.inr (.inr (.inl ⟨rfl, rfl⟩))) fun a h=>nx <| c_seq fun KJ_4 hKJ_4 => c_cond_t h rfl rfl <| wp_skip <| x_then_n (hKJ_4 _ _ ?_)
  refine wp_seq <| c_block <| wp_seq <| wp_region_lit ?_
  obtain ⟨t_3, et_3, H⟩ := bs H
  refine v_indexO h rfl U22 ti3 rfl rfl rfl ho_1 (hS.own 2) et_3 fun ad_2 cs_2 hk_2 hc_3 => ?_
  obtain rfl := (show cs_2 = [iV t_3] from hk_2)
  intro a h
  refine s_load h rfl rfl (el_one (o := 0) hc_3 U3 rfl rfl) fun a h=>sg h rfl fun a h=>wpList_nil ?_
  replace h : Fr 49 a [(0, _), (3, .pointer (some ⟨g_1, 0, none⟩)), (4, nS), (6, iV t_3), (19, v_1), (20, iV (([x1.Sess, x1.Seq, x1.Cmd.Kind, x1.Cmd.Who] : List Int).length : Int)), (21, iV 0)] := h.keep [0, 3, 4, 6, 19, 20, 21]
  refine x_then_n <| wp_region_lit <| mv h rfl fun a h=>mv h rfl fun a h=>?_
  obtain ⟨t_4, et_4, H⟩ := bs H
  refine s_call h rfl Try.call64 rfl (pack_Num.calls K x0 _ t_3 t_4 w0 _ _ _ mr (hS.enter [] (by decide)) (hp0_0.mono (hA.trans (hS.le_zed []))) et_4) ?_
  rintro v_9 w_9 ⟨_, N_7, M_8, rfl, hS', hr_3⟩
  intro a h
  obtain ⟨N_8, hS'', le_5, ln_2⟩ := hS.call [] (by decide) rfl (l' := []) (ow := [_]) rfl hS'
  replace hS : Sep w0 w_9 [N_8, _, _, _] Z := hS''
  refine sg h rfl fun a h=>wpList_nil <| x_block_n <| x_then_n <| wp_region_lit <| s_arith (r := w64 (0 + 1)) h rfl rfl rfl (.inl ⟨rfl, rfl⟩) fun a h=>mv h rfl fun a h=>wpList_nil <| x_then_n (hKL_2 _ _ ?_)
  exact ⟨t_4, w64 (0 + 1), v_9, N_8, M_8, H, (h.keep [0, 3, 4, 19, 20, 21]), (hS.sel [0, 1, 2, 3] (by decide)), le_5, hr_3⟩
 clear h hS a H
 rintro k_2 a w_8 KL_2 hKL_2 ⟨x_5, x_6, v_8, N_6, M_7, H, h, hS, le_6, ho_6⟩
 replace H : mach_PutEntry.B2 K x1 (fun v => mach_PutEntry.J1 K x1 v) (mach_PutEntry.L2 K x1 (fun v => mach_PutEntry.J1 K x1 v) k_2) x_5 x_6 = some r := H
 unfold mach_PutEntry.B2 at H
 refine qr <| s_cmp (b := decide (x_6 < (([x1.Sess, x1.Seq, x1.Cmd.Kind, x1.Cmd.Who] : List Int).length : Int))) h rfl rfl rfl (.inr (.inr (.inl ⟨rfl, rfl⟩))) fun a h=>nx <| c_seq fun KJ_5 hKJ_5 => ?_
 obtain ⟨hc_4, H⟩ | ⟨hc_4, H⟩ := ii H
 ·refine c_cond_t h rfl (dt hc_4) <| wp_skip <| x_then_n (hKJ_5 _ _ ?_)
  refine wp_seq <| c_block <| wp_seq <| wp_region_lit ?_
  obtain ⟨t_5, et_5, H⟩ := bs H
  refine v_indexO h rfl U22 ti3 rfl rfl rfl ho_1 (hS.own 2) et_5 fun ad_3 cs_3 hk_3 hc_5 => ?_
  obtain rfl := (show cs_3 = [iV t_5] from hk_3)
  intro a h
  refine s_load h rfl rfl (el_one (o := 0) hc_5 U3 rfl rfl) fun a h=>sg h rfl fun a h=>wpList_nil ?_
  replace h : Fr 49 a [(0, _), (3, _), (4, _), (6, iV t_5), (19, _), (20, _), (21, _)] := h.keep [0, 3, 4, 6, 19, 20, 21]
  refine x_then_n <| wp_region_lit <| mv h rfl fun a h=>mv h rfl fun a h=>?_
  obtain ⟨t_6, et_6, H⟩ := bs H
  refine s_call h rfl Try.call64 rfl (pack_Num.calls K x_5 _ t_5 t_6 w0 _ _ _ mr (hS.enter [] (by decide)) (ho_6.rd (hS.own_zed [] 2 (by decide)) (Mem.no_le _)) et_6) ?_
  rintro v_10 w_10 ⟨_, N_9, M_9, rfl, hS', hr_4⟩
  intro a h
  obtain ⟨N_10, hS'', le_7, ln_3⟩ := hS.call [] (by decide) rfl (l' := []) (ow := [_]) rfl hS'
  replace hS : Sep w0 w_10 [N_10, _, _, _, _] Z := hS''
  refine sg h rfl fun a h=>wpList_nil <| x_block_n <| x_then_n <| wp_region_lit <| s_arith (r := w64 (x_6 + 1)) h rfl rfl rfl (.inl ⟨rfl, rfl⟩) fun a h=>mv h rfl fun a h=>wpList_nil <| x_then_n (hKL_2 _ _ ?_)
  exact ⟨t_6, w64 (x_6 + 1), v_10, N_10, M_9, H, (h.keep [0, 3, 4, 19, 20, 21]), (hS.sel [0, 1, 2, 4] (by decide)), (le_6.trans le_7), hr_4⟩
 ·refine c_cond_f h rfl (df hc_4) <| wp_exit (x_then_x (x_then_x (x_block_t ?_)))
  exact x_then_n (hJ_j_1 x_5 H _ _ ⟨v_8, N_6, M_7, (h.keep [0, 3, 4]), (hS.sel [0, 1, 1001, 3] (by decide)), le_6, ho_6⟩)

set_option maxHeartbeats 4000000 in
set_option maxRecDepth 20000 in
theorem pack_Read.calls (x0 : List UInt8) (p0_0 : Value) (r : (List UInt8) × Bool) (w0 w : World) (Z A : Mem) (hA : A.le Z) (hS : Sep w0 w [] Z) (hp0_0 : Rd Kd.u8 A p0_0 x0)
    (H : pack_Read.f x0 = some r) :
    Calls Try.prog 69 [p0_0].toArray w (Ret fun v w' => ∃ (u0 : Nat) (u1 : Value) (N : Mem), v = .pointer (some ⟨u0, 0, none⟩) ∧ Sep w0 w' [N, bx u0 95 [u1, .bool r.2]] Z ∧ Rd Kd.u8 N u1 r.1) := by
 unfold pack_Read.f at H
 refine f_enter _ Try.func69 rfl Try.ntmps69 rfl fun a h=>?_
 replace h : Fr 7 a [(0, p0_0)] := h
 replace hS := hS.start
 refine qr <| sg h rfl fun a h=>nx <| qr <| mv h rfl fun a h=>?_
 obtain ⟨t_1, et_1, H⟩ := bs H
 refine s_call h rfl Try.call30 rfl (slices_Clone_sbyte_byte.calls x0 _ t_1 w0 _ _ _ mr (hS.enter [] (by decide)) (hp0_0.mono (hA.trans (hS.le_zed []))) et_1) ?_
 rintro v_1 w_1 ⟨_, N_1, M_1, rfl, hS', hr_1⟩
 intro a h
 obtain ⟨N_2, hS'', le_1, ln_1⟩ := hS.call [] (by decide) rfl (l' := []) (ow := [_]) rfl hS'
 replace hS : Sep w0 w_1 [N_2, _] Z := hS''
 refine s_build h rfl ti95 pl95 rfl (.cons hr_1.cells .nil) (cs := [v_1, .bool false]) (by kernel_rfl) fun a h=>v_box (vs := [v_1, .bool false]) h rfl rfl rfl hS fun w_2 g_1 hS' a h => ?_
 replace hS : Sep w0 w_2 [_, _, bx g_1 95 [v_1, .bool false]] Z := hS'
 refine sg h rfl fun a h=>nx <| wp_ret ?_
 obtain ⟨N_3, hS', le_2, lo_1⟩ := hS.freeze 0 rfl
 replace hS : Sep w0 w_2 [N_3, Mem.no, _] Z := hS'
 obtain rfl := Option.some.inj H
 exact r1 h 2 rfl rfl ⟨_, rfl, g_1, v_1, N_3, rfl, (hS.sel [0, 2] (by decide)), (hr_1.rd lo_1 (Mem.no_le _))⟩

set_option maxHeartbeats 4000000 in
set_option maxRecDepth 20000 in
theorem pack_Reader_fail.calls (g0 : Nat) (x0_b : List UInt8) (p0_0 : Value) (x0_bad : Bool) (r : Int × (List UInt8) × Bool) (w0 w : World) (Z A : Mem) (hA : A.le Z) (hS : Sep w0 w [bx g0 95 [p0_0, .bool x0_bad]] Z) (hp0_0 : Rd Kd.u8 A p0_0 x0_b)
    (H : pack_Reader_fail.f x0_b x0_bad = some r) :
    Calls Try.prog 79 [.pointer (some ⟨g0, 0, none⟩)].toArray w (Ret fun v w' => ∃ (u0 : Value) (N : Mem), v = iV r.1 ∧ Sep w0 w' [N, bx g0 95 [u0, .bool r.2.2]] Z ∧ Rd Kd.u8 (A.un N) u0 r.2.1) := by
 unfold pack_Reader_fail.f at H
 refine f_enter _ Try.func79 rfl Try.ntmps79 rfl fun a h=>?_
 replace h : Fr 9 a [(0, .pointer (some ⟨g0, 0, none⟩))] := h
 replace hS := hS.start
 refine qr <| sg h rfl fun a h=>nx <| qr <| mv h rfl fun a h=>mv h rfl fun a h=>s_nilCheck h rfl rfl fun a h=>s_fieldAddr h rfl U95 rfl ti26 rfl rfl fun a h=>?_
 refine sto 1 h rfl rfl hS rfl ti26 rfl rfl rfl (oz rfl) fun w_1 hS' => ?_
 replace hS : Sep w0 w_1 [_, bx g0 95 [nS, _]] Z := hS'
 refine s_nilCheck h rfl rfl fun a h=>s_fieldAddr h rfl U95 rfl ti4 rfl rfl fun a h=>?_
 refine sto 1 h rfl rfl hS rfl ti4 rfl rfl rfl (oz rfl) fun w_2 hS' => ?_
 replace hS : Sep w0 w_2 [_, bx g0 95 [_, .bool true]] Z := hS'
 refine nx <| qr <| sg h rfl fun a h=>nx <| wp_ret ?_
 obtain rfl := Option.some.inj H
 exact r1 h 2 rfl rfl ⟨_, rfl, nS, Mem.no, rfl, (hS.sel [0, 1] (by decide)), (Rd.nil _ _)⟩

set_option maxHeartbeats 4000000 in
set_option maxRecDepth 20000 in
theorem pack_Reader_Num.calls (K : Nat) (g0 : Nat) (x0_b : List UInt8) (p0_0 : Value) (x0_bad : Bool) (x1 : Int) (r : Int × (List UInt8) × Bool) (w0 w : World) (Z A : Mem) (hA : A.le Z) (hS : Sep w0 w [bx g0 95 [p0_0, .bool x0_bad]] Z) (hp0_0 : Rd Kd.u8 A p0_0 x0_b)
    (H : pack_Reader_Num.f K x0_b x0_bad x1 = some r) :
    Calls Try.prog 70 [.pointer (some ⟨g0, 0, none⟩), iV x1].toArray w (Ret fun v w' => ∃ (u0 : Value) (N : Mem), v = iV r.1 ∧ Sep w0 w' [N, bx g0 95 [u0, .bool r.2.2]] Z ∧ Rd Kd.u8 (A.un N) u0 r.2.1) := by
 unfold pack_Reader_Num.f at H
 refine f_enter _ Try.func70 rfl Try.ntmps70 rfl fun a h=>?_
 replace h : Fr 56 a [(0, .pointer (some ⟨g0, 0, none⟩)), (1, iV x1)] := h
 replace hS := hS.start
 refine qr <| sg h rfl fun a h=>nx <| qr <| sg h rfl fun a h=>nx <| c_seq fun KJ_1 hKJ_1 => wp_seq <| wp_region_lit ?_
 refine mv h rfl fun a h=>s_nilCheck h rfl rfl fun a h=>s_fieldAddr h rfl U95 rfl ti26 rfl rfl fun a h=>s_load h rfl rfl (hS.load_one (p := 1) rfl U26 rfl rfl) fun a h=>s_len h rfl U26 rfl hp0_0 fun a h=>mv h rfl fun a h=>wpList_nil <| x_then_n ?_
 have hJ_j_1 : pack_Reader_Num.J1 K x0_b x0_bad = some r → ∀ (a : Act) (w_1 : World), (∃ (N_1 : Mem), Fr 56 a [(0, .pointer (some ⟨g0, 0, none⟩)), (4, iV 0)] ∧ Sep w0 w_1 [N_1, bx g0 95 [p0_0, .bool x0_bad]] Z ∧ Mem.no.le N_1) → KJ_1 a w_1 := by
  clear H h hS a
  rintro H a w_1 ⟨N_1, h, hS, le_1⟩
  unfold pack_Reader_Num.J1 at H
  refine hKJ_1 _ _ <| qr <| mv h rfl fun a h=>?_
  obtain ⟨t_1, et_1, H⟩ := bs H
  refine s_call h rfl Try.call79 rfl (pack_Reader_fail.calls _ x0_b _ x0_bad t_1 w0 _ _ A (hA.trans (hS.le_zed [0])) (hS.enter [0] (by decide)) hp0_0 et_1) ?_
  rintro _ w_2 ⟨v_1, N_2, rfl, hS', hr_1⟩
  intro a h
  obtain ⟨N_3, hS'', le_2, ln_1⟩ := hS.call [0] (by decide) rfl (l' := [_]) (ow := []) rfl hS'
  replace hS : Sep w0 w_2 [N_3, _] Z := hS''
  have hr_2 : Rd Kd.u8 (A.un N_3) v_1 t_1.2.1 := hr_1.mono (Mem.un_left ln_1)
  refine sg h rfl fun a h=>wpList_nil ?_
  replace h : Fr 56 a [(4, iV t_1.1)] := h.keep [4]
  refine x_then_n <| wp_ret ?_
  obtain rfl := Option.some.inj H
  exact r1 h 4 rfl rfl ⟨_, rfl, v_1, N_3, rfl, (hS.sel [0, 1] (by decide)), hr_2⟩
 clear hKJ_1
 refine c_block <| c_loop (fun k_1 a w_3 => ∃ (x_1 : Int) (x_2 : Int) (N_4 : Mem), pack_Reader_Num.L1 K x0_b x1 x0_bad (fun v => pack_Reader_Num.J1 K x0_b x0_bad) k_1 (x_1, x_2) = some r ∧ Fr 56 a [(0, .pointer (some ⟨g0, 0, none⟩)), (1, iV x1), (4, iV 0), (5, iV x_1), (11, p0_0), (12, iV (x0_b.length : Int)), (13, iV x_2)] ∧ Sep w0 w_3 [N_4, bx g0 95 [p0_0, .bool x0_bad]] Z ∧ Mem.no.le N_4) K ⟨0, 0, Mem.no, H, (h.keep [0, 1, 4, 5, 11, 12, 13]), (hS.sel [0, 1] (by decide)), mr⟩ (fun a w h => by obtain ⟨_, _, _, H, _⟩ := h; cases (show (none : Option (Int × (List UInt8) × Bool)) = some r from H)) ?_
 clear h hS a H
 rintro k_1 a w_3 KL_1 hKL_1 ⟨x_1, x_2, N_4, H, h, hS, le_3⟩
 replace H : pack_Reader_Num.B1 K x0_b x1 x0_bad (fun v => pack_Reader_Num.J1 K x0_b x0_bad) (pack_Reader_Num.L1 K x0_b x1 x0_bad (fun v => pack_Reader_Num.J1 K x0_b x0_bad) k_1) x_1 x_2 = some r := H
 unfold pack_Reader_Num.B1 at H
 refine qr <| s_cmp (b := decide (x_2 < (x0_b.length : Int))) h rfl rfl rfl (.inr (.inr (.inl ⟨rfl, rfl⟩))) fun a h=>wpList_nil ?_
 replace h : Fr 56 a [(0, _), (1, _), (4, _), (5, _), (11, _), (12, _), (13, _), (14, .bool (decide (x_2 < (x0_b.length : Int))))] := h.keep [0, 1, 4, 5, 11, 12, 13, 14]
 refine x_then_n <| c_seq fun KJ_2 hKJ_2 => ?_
 obtain ⟨hc_1, H⟩ | ⟨hc_1, H⟩ := ii H
 ·refine c_cond_t h rfl (dt hc_1) <| wp_skip <| x_then_n (hKJ_2 _ _ ?_)
  refine wp_seq <| c_block <| qr <| mv h rfl fun a h=>?_
  obtain ⟨t_2, et_2, H⟩ := bs H
  refine v_index h rfl U26 ti5 rfl rfl rfl hp0_0 (hA.trans hS.old) et_2 fun ad_1 cs_1 hk_1 hc_2 => ?_
  obtain rfl := (show cs_1 = [.int .u8 (t_2.toNat : Int)] from hk_1)
  intro a h
  refine s_load h rfl rfl (el_one (o := 0) hc_2 U5 rfl rfl) fun a h=>sg h rfl fun a h=>sg h rfl fun a h=>nx <| c_seq fun KJ_3 hKJ_3 => c_seq fun KJ_4 hKJ_4 => ?_
  have hJ_j_2 : ∀ (x_3 : Bool), pack_Reader_Num.J2 K (fun v => pack_Reader_Num.J1 K x0_b x0_bad) x_2 t_2 (pack_Reader_Num.L1 K x0_b x1 x0_bad (fun v => pack_Reader_Num.J1 K x0_b x0_bad) k_1) x_1 x1 x0_b x0_bad x_3 = some r → ∀ (a : Act) (w_4 : World), (∃ (N_5 : Mem), Fr 56 a [(0, .pointer (some ⟨g0, 0, none⟩)), (1, iV x1), (4, iV 0), (5, iV x_1), (6, iV x_2), (7, .int .u8 (t_2.toNat : Int)), (11, p0_0), (12, iV (x0_b.length : Int)), (13, iV x_2), (27, .bool x_3)] ∧ Sep w0 w_4 [N_5, bx g0 95 [p0_0, .bool x0_bad]] Z ∧ N_4.le N_5) → KJ_4 a w_4 := by
   clear H h hS a
   rintro x_3 H a w_4 ⟨N_5, h, hS, le_4⟩
   unfold pack_Reader_Num.J2 at H
   refine hKJ_4 _ _ ?_
   obtain ⟨hc_3, H⟩ | ⟨hc_3, H⟩ := ii H
   ·refine c_cond_t h rfl hc_3 <| wp_exit (x_then_x (x_block_x rfl (x_then_x (x_then_x (x_block_t ?_)))))
    exact x_then_n (hJ_j_1  H _ _ ⟨N_5, (h.keep [0, 4]), (hS.sel [0, 1] (by decide)), (le_3.trans le_4)⟩)
   ·refine c_cond_f h rfl (ef hc_3) <| wp_skip <| x_then_n (hKJ_3 _ _ ?_)
    refine qr <| mv h rfl fun a h=>mv h rfl fun a h=>s_bits (i := (t_2.toNat : Int)) (j := ((127 : UInt8).toNat : Int)) (r := ((t_2 &&& (127 : UInt8)).toNat : Int)) h rfl rfl rfl (.inl ⟨rfl, (band8 _ _).symm⟩) fun a h=>s_conv (((t_2 &&& (127 : UInt8)).toNat : Int)) h rfl U5 U3 rfl (w64_nat8 _).symm fun a h=>mv h rfl fun a h=>s_arith (r := w64 (7 * x_2)) h rfl rfl rfl (.inr (.inr ⟨rfl, rfl⟩)) fun a h=>?_
    obtain ⟨u_1, eu_1, H⟩ := bs H
    refine s_shift (r := shl .i64 ((t_2 &&& (127 : UInt8)).toNat : Int) (w64 (7 * x_2))) h rfl rfl rfl (must_some eu_1) (.inl ⟨rfl, rfl⟩) fun a h=>s_bits (i := x_1) (j := shl .i64 ((t_2 &&& (127 : UInt8)).toNat : Int) (w64 (7 * x_2))) (r := bor .i64 x_1 (shl .i64 ((t_2 &&& (127 : UInt8)).toNat : Int) (w64 (7 * x_2)))) h rfl rfl rfl (.inr (.inl ⟨rfl, rfl⟩)) fun a h=>sg h rfl fun a h=>nx <| c_seq fun KJ_5 hKJ_5 => qr <| mv h rfl fun a h=>s_cmp (b := decide ((t_2.toNat : Int) ≥ ((128 : UInt8).toNat : Int))) h rfl rfl rfl (.inr (.inr (.inr (.inr (.inr ⟨rfl, rfl⟩))))) fun a h=>wpList_nil <| x_then_n ?_
    obtain ⟨hc_4, H⟩ | ⟨hc_4, H⟩ := ii H
    ·refine c_cond_t h rfl (dt hc_4) <| wp_exit (x_then_x (x_block_t ?_))
     refine x_then_n <| wp_region_lit <| s_arith (r := w64 (x_2 + 1)) h rfl rfl rfl (.inl ⟨rfl, rfl⟩) fun a h=>mv h rfl fun a h=>wpList_nil ?_
     replace h : Fr 56 a [(0, _), (1, _), (4, _), (5, iV (bor .i64 x_1 (shl .i64 ((t_2 &&& (127 : UInt8)).toNat : Int) (w64 (7 * x_2))))), (11, _), (12, _), (13, iV (w64 (x_2 + 1)))] := h.keep [0, 1, 4, 5, 11, 12, 13]
     refine x_then_n (hKL_1 _ _ ?_)
     exact ⟨bor .i64 x_1 (shl .i64 ((t_2 &&& (127 : UInt8)).toNat : Int) (w64 (7 * x_2))), w64 (x_2 + 1), N_5, H, (h.keep [0, 1, 4, 5, 11, 12, 13]), (hS.sel [0, 1] (by decide)), (le_3.trans le_4)⟩
    ·refine c_cond_f h rfl (df hc_4) <| wp_skip <| x_then_n (hKJ_5 _ _ ?_)
     refine c_seq fun KJ_6 hKJ_6 => qr <| mv h rfl fun a h=>mv h rfl fun a h=>?_
     obtain ⟨t_3, et_3, H⟩ := bs H
     refine s_call h rfl Try.call78 rfl (pack_held.calls x1 t_3 w0 _ _ _ mr (hS.enter [] (by decide))  et_3) ?_
     rintro _ w_5 ⟨N_6, rfl, hS'⟩
     intro a h
     obtain ⟨N_7, hS'', le_5, ln_2⟩ := hS.call [] (by decide) rfl (l' := []) (ow := []) rfl hS'
     replace hS : Sep w0 w_5 [N_7, _] Z := hS''
     refine s_cmp (b := decide ((bor .i64 x_1 (shl .i64 ((t_2 &&& (127 : UInt8)).toNat : Int) (w64 (7 * x_2)))) > t_3)) h rfl rfl rfl (.inr (.inr (.inr (.inr (.inl ⟨rfl, rfl⟩))))) fun a h=>wpList_nil ?_
     replace h : Fr 56 a [(0, _), (1, _), (4, _), (5, iV (bor .i64 x_1 (shl .i64 ((t_2 &&& (127 : UInt8)).toNat : Int) (w64 (7 * x_2))))), (6, _), (11, _), (12, _), (13, _), (41, .bool (decide ((bor .i64 x_1 (shl .i64 ((t_2 &&& (127 : UInt8)).toNat : Int) (w64 (7 * x_2)))) > t_3)))] := h.keep [0, 1, 4, 5, 6, 11, 12, 13, 41]
     refine x_then_n ?_
     obtain ⟨hc_5, H⟩ | ⟨hc_5, H⟩ := ii H
     ·refine c_cond_t h rfl (dt hc_5) <| wp_exit (x_then_x (x_block_x rfl (x_then_x (x_then_x (x_block_t ?_)))))
      exact x_then_n (hJ_j_1  H _ _ ⟨N_7, (h.keep [0, 4]), (hS.sel [0, 1] (by decide)), (le_3.trans (le_4.trans le_5))⟩)
     ·refine c_cond_f h rfl (df hc_5) <| wp_skip <| x_then_n (hKJ_6 _ _ ?_)
      refine qr <| mv h rfl fun a h=>mv h rfl fun a h=>s_nilCheck h rfl rfl fun a h=>s_fieldAddr h rfl U95 rfl ti26 rfl rfl fun a h=>s_load h rfl rfl (hS.load_one (p := 1) rfl U26 rfl rfl) fun a h=>mv h rfl fun a h=>s_arith (r := w64 (x_2 + 1)) h rfl rfl rfl (.inl ⟨rfl, rfl⟩) fun a h=>?_
      obtain ⟨t_4, et_4, H⟩ := bs H
      refine s_slice h rfl U26 ti5 rfl rfl hp0_0 rfl rfl et_4 fun v_2 hr_3 a h => s_nilCheck h rfl rfl fun a h=>s_fieldAddr h rfl U95 rfl ti26 rfl rfl fun a h=>?_
      refine sto 1 h rfl rfl hS rfl ti26 hr_3.cellsA rfl rfl (oc hr_3.one on0) fun w_6 hS' => ?_
      replace hS : Sep w0 w_6 [_, bx g0 95 [v_2, _]] Z := hS'
      refine nx <| qr <| mv h rfl fun a h=>sg h rfl fun a h=>nx <| wp_ret (x_block_r (x_then_r (x_then_r (x_block_r (x_then_r ?_)))))
      obtain rfl := Option.some.inj H
      exact r1 h 4 rfl rfl ⟨_, rfl, v_2, N_7, rfl, (hS.sel [0, 1] (by decide)), (hr_3.mono (Mem.le_un _ _))⟩
  clear hKJ_4
  refine wp_region_lit <| mv h rfl fun a h=>s_cmp (b := decide (x_2 > 8)) h rfl rfl rfl (.inr (.inr (.inr (.inr (.inl ⟨rfl, rfl⟩))))) fun a h=>mv h rfl fun a h=>?_
  obtain ⟨hc_6, H⟩ | ⟨hc_6, H⟩ := ii H
  ·refine of h rfl rfl (dt hc_6) fun a h=>of h rfl rfl (dt hc_6) fun a h=>of h rfl rfl (dt hc_6) fun a h=>s_offu h rfl rfl rfl fun a h=>s_offu h rfl rfl rfl fun a h=>of h rfl rfl (dt hc_6) fun a h=>pt h rfl (dt hc_6) fun a h=>wpList_nil ?_
   exact x_then_n (hJ_j_2 true H _ _ ⟨N_4, (h.keep [0, 1, 4, 5, 6, 7, 11, 12, 13, 27]), (hS.sel [0, 1] (by decide)), mr⟩)
  ·refine s_on h rfl rfl (df hc_6) <| mv h rfl fun a h=>s_on h rfl rfl (df hc_6) <| s_cmp (b := ((t_2.toNat : Int) == ((0 : UInt8).toNat : Int))) h rfl rfl rfl (.inl ⟨rfl, rfl⟩) fun a h=>s_on h rfl rfl (df hc_6) <| mv h rfl fun a h=>?_
   obtain ⟨hc_7, H⟩ | ⟨hc_7, H⟩ := ii H
   ·refine s_on h rfl rfl (bt hc_7) <| mv h rfl fun a h=>s_on h rfl rfl (bt hc_7) <| s_cmp (b := decide (x_2 > 0)) h rfl rfl rfl (.inr (.inr (.inr (.inr (.inl ⟨rfl, rfl⟩))))) fun a h=>s_on h rfl rfl (df hc_6) <| pt h rfl (bt hc_7) fun a h=>pf h rfl (df hc_6) fun a h=>wpList_nil ?_
    exact x_then_n (hJ_j_2 (decide (x_2 > 0)) H _ _ ⟨N_4, (h.keep [0, 1, 4, 5, 6, 7, 11, 12, 13, 27]), (hS.sel [0, 1] (by decide)), mr⟩)
   ·refine of h rfl rfl (bf hc_7) fun a h=>of h rfl rfl (bf hc_7) fun a h=>s_on h rfl rfl (df hc_6) <| pf h rfl (bf hc_7) fun a h=>pf h rfl (df hc_6) fun a h=>wpList_nil ?_
    exact x_then_n (hJ_j_2 false H _ _ ⟨N_4, (h.keep [0, 1, 4, 5, 6, 7, 11, 12, 13, 27]), (hS.sel [0, 1] (by decide)), mr⟩)
 ·refine c_cond_f h rfl (df hc_1) <| wp_exit (x_then_x (x_then_x (x_block_t ?_)))
  exact x_then_n (hJ_j_1  H _ _ ⟨N_4, (h.keep [0, 4]), (hS.sel [0, 1] (by decide)), le_3⟩)

set_option maxHeartbeats 4000000 in
set_option maxRecDepth 20000 in
theorem pack_Reader_Bytes.calls (K : Nat) (g0 : Nat) (x0_b : List UInt8) (p0_0 : Value) (x0_bad : Bool) (x1 : Int) (r : (List UInt8) × (List UInt8) × Bool) (w0 w : World) (Z A : Mem) (hA : A.le Z) (hS : Sep w0 w [bx g0 95 [p0_0, .bool x0_bad]] Z) (hp0_0 : Rd Kd.u8 A p0_0 x0_b)
    (H : pack_Reader_Bytes.f K x0_b x0_bad x1 = some r) :
    Calls Try.prog 71 [.pointer (some ⟨g0, 0, none⟩), iV x1].toArray w (Ret fun v w' => ∃ (u0 : Value) (u1 : Value) (N : Mem) (M0 : Mem), v = u0 ∧ Sep w0 w' [N, bx g0 95 [u1, .bool r.2.2], M0] Z ∧ Own Kd.u8 5 M0 Mem.no u0 r.1 ∧ Rd Kd.u8 (A.un N) u1 r.2.1) := by
 unfold pack_Reader_Bytes.f at H
 refine f_enter _ Try.func71 rfl Try.ntmps71 rfl fun a h=>?_
 replace h : Fr 36 a [(0, .pointer (some ⟨g0, 0, none⟩)), (1, iV x1)] := h
 replace hS := hS.start
 refine qr <| sg h rfl fun a h=>nx <| qr <| mv h rfl fun a h=>mv h rfl fun a h=>?_
 obtain ⟨t_1, et_1, H⟩ := bs H
 refine s_call h rfl Try.call70 rfl (pack_Reader_Num.calls K _ x0_b _ x0_bad x1 t_1 w0 _ _ A (hA.trans (hS.le_zed [0])) (hS.enter [0] (by decide)) hp0_0 et_1) ?_
 rintro _ w_1 ⟨v_1, N_1, rfl, hS', hr_1⟩
 intro a h
 obtain ⟨N_2, hS'', le_1, ln_1⟩ := hS.call [0] (by decide) rfl (l' := [_]) (ow := []) rfl hS'
 replace hS : Sep w0 w_1 [N_2, _] Z := hS''
 have hr_2 : Rd Kd.u8 (A.un N_2) v_1 t_1.2.1 := hr_1.mono (Mem.un_left ln_1)
 refine sg h rfl fun a h=>nx <| c_seq fun KJ_1 hKJ_1 => qr <| mv h rfl fun a h=>mv h rfl fun a h=>s_nilCheck h rfl rfl fun a h=>s_fieldAddr h rfl U95 rfl ti26 rfl rfl fun a h=>s_load h rfl rfl (hS.load_one (p := 1) rfl U26 rfl rfl) fun a h=>s_len h rfl U26 rfl hr_2 fun a h=>?_
 refine s_cmp (b := decide (t_1.1 > (t_1.2.1.length : Int))) h rfl rfl rfl (.inr (.inr (.inr (.inr (.inl ⟨rfl, rfl⟩))))) fun a h=>wpList_nil <| x_then_n ?_
 obtain ⟨hc_1, H⟩ | ⟨hc_1, H⟩ := ii H
 ·refine c_cond_t h rfl (dt hc_1) <| qr <| mv h rfl fun a h=>?_
  obtain ⟨t_2, et_2, H⟩ := bs H
  refine s_call h rfl Try.call79 rfl (pack_Reader_fail.calls _ t_1.2.1 _ t_1.2.2 t_2 w0 _ _ (A.un N_2) (Mem.un_le (hA.trans (hS.le_zed [0])) (hS.new_zed [0])) (hS.enter [0] (by decide)) hr_2 et_2) ?_
  rintro _ w_2 ⟨v_2, N_3, rfl, hS', hr_3⟩
  intro a h
  obtain ⟨N_4, hS'', le_2, ln_2⟩ := hS.call [0] (by decide) rfl (l' := [_]) (ow := []) rfl hS'
  replace hS : Sep w0 w_2 [N_4, _] Z := hS''
  have hr_4 : Rd Kd.u8 (A.un N_4) v_2 t_2.2.1 := hr_3.mono (Mem.un_le (Mem.un_left le_2) (ln_2.trans (hS.sndA hA)))
  refine wpList_nil ?_
  replace h : Fr 36 a [(0, _), (4, nS), (5, iV t_1.1)] := h.keep [0, 4, 5]
  refine x_then_n <| qr <| sg h rfl fun a h=>nx <| wp_ret (x_then_r ?_)
  have hS' := hS.room
  replace hS : Sep w0 w_2 [_, _, Mem.no] Z := hS'
  obtain rfl := Option.some.inj H
  exact r1 h 4 rfl rfl ⟨_, rfl, nS, v_2, N_4, Mem.no, rfl, (hS.sel [0, 1, 2] (by decide)), (Own.nil Kd.u8 5 Mem.no), hr_4⟩
 ·refine c_cond_f h rfl (df hc_1) <| wp_skip <| x_then_n (hKJ_1 _ _ ?_)
  refine qr <| mv h rfl fun a h=>s_nilCheck h rfl rfl fun a h=>s_fieldAddr h rfl U95 rfl ti26 rfl rfl fun a h=>s_load h rfl rfl (hS.load_one (p := 1) rfl U26 rfl rfl) fun a h=>mv h rfl fun a h=>?_
  obtain ⟨t_3, et_3, H⟩ := bs H
  refine s_slice h rfl U26 ti5 rfl rfl hr_2 rfl rfl et_3 fun v_3 hr_5 a h => ?_
  obtain ⟨t_4, et_4, H⟩ := bs H
  refine s_call h rfl Try.call30 rfl (slices_Clone_sbyte_byte.calls t_3 _ t_4 w0 _ _ _ mr (hS.enter [] (by decide)) (hr_5.mono (Mem.un_le (hA.trans (hS.le_zed [])) (mr.trans (hS.new_zed [])))) et_4) ?_
  rintro v_4 w_3 ⟨_, N_5, M_1, rfl, hS', hr_6⟩
  intro a h
  obtain ⟨N_6, hS'', le_3, ln_3⟩ := hS.call [] (by decide) rfl (l' := []) (ow := [_]) rfl hS'
  replace hS : Sep w0 w_3 [N_6, _, _] Z := hS''
  refine sg h rfl fun a h=>wpList_nil ?_
  replace h : Fr 36 a [(0, _), (4, nS), (5, iV t_1.1), (6, v_4)] := h.keep [0, 4, 5, 6]
  refine x_then_n <| qr <| mv h rfl fun a h=>mv h rfl fun a h=>s_nilCheck h rfl rfl fun a h=>s_fieldAddr h rfl U95 rfl ti26 rfl rfl fun a h=>s_load h rfl rfl (hS.load_one (p := 1) rfl U26 rfl rfl) fun a h=>mv h rfl fun a h=>?_
  obtain ⟨t_5, et_5, H⟩ := bs H
  refine s_slice h rfl U26 ti5 rfl rfl hr_2 rfl rfl et_5 fun v_5 hr_7 a h => s_nilCheck h rfl rfl fun a h=>s_fieldAddr h rfl U95 rfl ti26 rfl rfl fun a h=>?_
  refine sto 1 h rfl rfl hS rfl ti26 hr_7.cellsA rfl rfl (oc hr_7.one on0) fun w_4 hS' => ?_
  replace hS : Sep w0 w_4 [_, bx g0 95 [v_5, _], _] Z := hS'
  refine nx <| qr <| mv h rfl fun a h=>sg h rfl fun a h=>nx <| wp_ret ?_
  obtain rfl := Option.some.inj H
  exact r1 h 4 rfl rfl ⟨_, rfl, v_4, v_5, N_6, M_1, rfl, (hS.sel [0, 1, 2] (by decide)), hr_6, (hr_7.mono (Mem.un_left le_3))⟩

set_option maxHeartbeats 4000000 in
set_option maxRecDepth 20000 in
theorem mesg_numbers.calls (K : Nat) (g0 : Nat) (x0_b : List UInt8) (p0_0 : Value) (x0_bad : Bool) (x1 : Int) (r : (List Int) × (List UInt8) × Bool) (w0 w : World) (Z A : Mem) (hA : A.le Z) (hS : Sep w0 w [bx g0 95 [p0_0, .bool x0_bad]] Z) (hp0_0 : Rd Kd.u8 A p0_0 x0_b)
    (H : mesg_numbers.f K x0_b x0_bad x1 = some r) :
    Calls Try.prog 72 [.pointer (some ⟨g0, 0, none⟩), iV x1].toArray w (Ret fun v w' => ∃ (u0 : Value) (u1 : Value) (N : Mem) (M0 : Mem), v = u0 ∧ Sep w0 w' [N, bx g0 95 [u1, .bool r.2.2], M0] Z ∧ Own (Kd.int .i64) 3 M0 Mem.no u0 r.1 ∧ Rd Kd.u8 (A.un N) u1 r.2.1) := by
 unfold mesg_numbers.f at H
 refine f_enter _ Try.func72 rfl Try.ntmps72 rfl fun a h=>?_
 replace h : Fr 18 a [(0, .pointer (some ⟨g0, 0, none⟩)), (1, iV x1)] := h
 replace hS := hS.start
 refine qr <| sg h rfl fun a h=>nx <| qr <| sg h rfl fun a h=>nx <| c_seq fun KJ_1 hKJ_1 => wp_seq <| wp_region_lit ?_
 refine mv h rfl fun a h=>mv h rfl fun a h=>?_
 obtain ⟨t_1, et_1, H⟩ := bs H
 refine s_call h rfl Try.call70 rfl (pack_Reader_Num.calls K _ x0_b _ x0_bad x1 t_1 w0 _ _ A (hA.trans (hS.le_zed [0])) (hS.enter [0] (by decide)) hp0_0 et_1) ?_
 rintro _ w_1 ⟨v_1, N_1, rfl, hS', hr_1⟩
 intro a h
 obtain ⟨N_2, hS'', le_1, ln_1⟩ := hS.call [0] (by decide) rfl (l' := [_]) (ow := []) rfl hS'
 replace hS : Sep w0 w_1 [N_2, _] Z := hS''
 have hr_2 : Rd Kd.u8 (A.un N_2) v_1 t_1.2.1 := hr_1.mono (Mem.un_left ln_1)
 refine mv h rfl fun a h=>wpList_nil <| x_then_n ?_
 have hJ_j_1 : ∀ (x_1 : List Int), ∀ (x_2 : List UInt8), ∀ (x_3 : Bool), mesg_numbers.J1 K x_1 x_2 x_3 = some r → ∀ (a : Act) (w_2 : World), (∃ (v_2 : Value) (v_3 : Value) (N_3 : Mem) (M_1 : Mem), Fr 18 a [(4, nS), (5, v_2)] ∧ Sep w0 w_2 [N_3, bx g0 95 [v_3, .bool x_3], M_1] Z ∧ N_2.le N_3 ∧ Own (Kd.int .i64) 3 M_1 Mem.no v_2 x_1 ∧ Rd Kd.u8 (A.un N_3) v_3 x_2) → KJ_1 a w_2 := by
  clear H h hS a
  rintro x_1 x_2 x_3 H a w_2 ⟨v_2, v_3, N_3, M_1, h, hS, le_2, ho_1, hr_3⟩
  unfold mesg_numbers.J1 at H
  refine hKJ_1 _ _ <| qr <| mv h rfl fun a h=>sg h rfl fun a h=>wpList_nil ?_
  replace h : Fr 18 a [(4, v_2)] := h.keep [4]
  refine x_then_n <| wp_ret ?_
  obtain rfl := Option.some.inj H
  exact r1 h 4 rfl rfl ⟨_, rfl, v_2, v_3, N_3, M_1, rfl, (hS.sel [0, 1, 2] (by decide)), ho_1, hr_3⟩
 clear hKJ_1
 have hS' := hS.room
 replace hS : Sep w0 w_1 [_, _, Mem.no] Z := hS'
 refine c_block <| c_loop (fun k_1 a w_3 => ∃ (x_4 : List Int) (x_5 : Int) (x_6 : List UInt8) (x_7 : Bool) (v_4 : Value) (v_5 : Value) (N_4 : Mem) (M_2 : Mem), mesg_numbers.L1 K t_1 (fun v => mesg_numbers.J1 K v.1 v.2.1 v.2.2) k_1 (x_4, x_5, x_6, x_7) = some r ∧ Fr 18 a [(0, .pointer (some ⟨g0, 0, none⟩)), (4, nS), (5, v_4), (8, iV t_1.1), (9, iV x_5)] ∧ Sep w0 w_3 [N_4, bx g0 95 [v_5, .bool x_7], M_2] Z ∧ N_2.le N_4 ∧ Own (Kd.int .i64) 3 M_2 Mem.no v_4 x_4 ∧ Rd Kd.u8 (A.un N_4) v_5 x_6) K ⟨([] : List Int), 0, t_1.2.1, t_1.2.2, nS, v_1, N_2, Mem.no, H, (h.keep [0, 4, 5, 8, 9]), (hS.sel [0, 1, 2] (by decide)), mr, (Own.nil (Kd.int .i64) 3 Mem.no), hr_2⟩ (fun a w h => by obtain ⟨_, _, _, _, _, _, _, _, H, _⟩ := h; cases (show (none : Option ((List Int) × (List UInt8) × Bool)) = some r from H)) ?_
 clear h hS a H
 rintro k_1 a w_3 KL_1 hKL_1 ⟨x_4, x_5, x_6, x_7, v_4, v_5, N_4, M_2, H, h, hS, le_3, ho_2, hr_4⟩
 replace H : mesg_numbers.B1 K t_1 (fun v => mesg_numbers.J1 K v.1 v.2.1 v.2.2) (mesg_numbers.L1 K t_1 (fun v => mesg_numbers.J1 K v.1 v.2.1 v.2.2) k_1) x_4 x_5 x_6 x_7 = some r := H
 unfold mesg_numbers.B1 at H
 refine qr <| s_cmp (b := decide (x_5 < t_1.1)) h rfl rfl rfl (.inr (.inr (.inl ⟨rfl, rfl⟩))) fun a h=>wpList_nil ?_
 replace h : Fr 18 a [(0, _), (4, _), (5, _), (8, _), (9, _), (10, .bool (decide (x_5 < t_1.1)))] := h.keep [0, 4, 5, 8, 9, 10]
 refine x_then_n <| c_seq fun KJ_2 hKJ_2 => ?_
 obtain ⟨hc_1, H⟩ | ⟨hc_1, H⟩ := ii H
 ·refine c_cond_t h rfl (dt hc_1) <| wp_skip <| x_then_n (hKJ_2 _ _ ?_)
  refine wp_seq <| c_block <| wp_region_lit <| mv h rfl fun a h=>mv h rfl fun a h=>?_
  obtain ⟨t_2, et_2, H⟩ := bs H
  refine s_call h rfl Try.call70 rfl (pack_Reader_Num.calls K _ x_6 _ x_7 1099511627776 t_2 w0 _ _ (A.un N_4) (Mem.un_le (hA.trans (hS.le_zed [0])) (hS.new_zed [0])) (hS.enter [0] (by decide)) hr_4 et_2) ?_
  rintro _ w_4 ⟨v_6, N_5, rfl, hS', hr_5⟩
  intro a h
  obtain ⟨N_6, hS'', le_4, ln_2⟩ := hS.call [0] (by decide) rfl (l' := [_]) (ow := []) rfl hS'
  replace hS : Sep w0 w_4 [N_6, _, _] Z := hS''
  have hr_6 : Rd Kd.u8 (A.un N_6) v_6 t_2.2.1 := hr_5.mono (Mem.un_le (Mem.un_left le_4) (ln_2.trans (hS.sndA hA)))
  have hq_1 : Reps (Kd.int .i64) Mem.no ([t_2.1] : List Int) _ := ((Reps.one (d := (Kd.int .i64)) (x := t_2.1) (show (Kd.int .i64).K _ _ [iV t_2.1] from rfl)).append (Reps.nil (Kd.int .i64) _))
  refine s_buildSlice h rfl U22 ti3 rfl rfl rfl (.cons rfl .nil) rfl rfl rfl hS hq_1 rfl fun w_5 v_7 M_3 hS' ho_3 a h => ?_
  replace hS : Sep w0 w_5 [_, _, _, M_3] Z := hS'
  obtain ⟨t_3, et_3, H⟩ := bs H
  refine s_append (J := Mem.no) (I' := Mem.no) (p := 2) 17592186044416 h rfl rfl rfl U22 ti3 rfl rfl rfl rfl hS rfl ho_2 (Src.flat (flat_int .i64) (ho_3.src (hS.own 3))) mr mr et_3 fun w_6 v_8 M_4 hS' ho_4 a h => ?_
  replace hS : Sep w0 w_6 [_, _, M_4, _] Z := hS'
  refine sg h rfl fun a h=>wpList_nil <| x_block_n <| x_then_n <| wp_region_lit <| s_arith (r := w64 (x_5 + 1)) h rfl rfl rfl (.inl ⟨rfl, rfl⟩) fun a h=>mv h rfl fun a h=>wpList_nil <| x_then_n (hKL_1 _ _ ?_)
  exact ⟨t_3, w64 (x_5 + 1), t_2.2.1, t_2.2.2, v_8, v_6, N_6, M_4, H, (h.keep [0, 4, 5, 8, 9]), (hS.sel [0, 1, 2] (by decide)), (le_3.trans le_4), ho_4, hr_6⟩
 ·refine c_cond_f h rfl (df hc_1) <| wp_exit (x_then_x (x_then_x (x_block_t ?_)))
  exact x_then_n (hJ_j_1 x_4 x_6 x_7 H _ _ ⟨v_4, v_5, N_4, M_2, (h.keep [4, 5]), (hS.sel [0, 1, 2] (by decide)), le_3, ho_2, hr_4⟩)

set_option maxHeartbeats 4000000 in
set_option maxRecDepth 20000 in
theorem pack_Reader_Ok.calls (g0 : Nat) (x0_b : List UInt8) (p0_0 : Value) (x0_bad : Bool) (r : Bool) (w0 w : World) (Z A : Mem) (hA : A.le Z) (hS : Sep w0 w [bx g0 95 [p0_0, .bool x0_bad]] Z) (hp0_0 : Rd Kd.u8 A p0_0 x0_b)
    (H : pack_Reader_Ok.f x0_b x0_bad = some r) :
    Calls Try.prog 80 [.pointer (some ⟨g0, 0, none⟩)].toArray w (Ret fun v w' => ∃ (N : Mem), v = .bool r ∧ Sep w0 w' [N, bx g0 95 [p0_0, .bool x0_bad]] Z) := by
 unfold pack_Reader_Ok.f at H
 refine f_enter _ Try.func80 rfl Try.ntmps80 rfl fun a h=>?_
 replace h : Fr 8 a [(0, .pointer (some ⟨g0, 0, none⟩))] := h
 replace hS := hS.start
 refine qr <| sg h rfl fun a h=>nx <| qr <| mv h rfl fun a h=>s_nilCheck h rfl rfl fun a h=>s_fieldAddr h rfl U95 rfl ti4 rfl rfl fun a h=>s_load h rfl rfl (hS.load_one (p := 1) rfl U4 rfl rfl) fun a h=>s_not h rfl rfl fun a h=>?_
 refine sg h rfl fun a h=>nx <| wp_ret ?_
 obtain rfl := Option.some.inj H
 exact r1 h 2 rfl rfl ⟨_, rfl, Mem.no, rfl, (hS.sel [0, 1] (by decide))⟩

set_option maxHeartbeats 4000000 in
set_option maxRecDepth 20000 in
theorem mach_GetEntry.calls (K : Nat) (g0 : Nat) (x0_b : List UInt8) (p0_0 : Value) (x0_bad : Bool) (r : api_Entry × (List UInt8) × Bool) (w0 w : World) (Z A : Mem) (hA : A.le Z) (hS : Sep w0 w [bx g0 95 [p0_0, .bool x0_bad]] Z) (hp0_0 : Rd Kd.u8 A p0_0 x0_b)
    (H : mach_GetEntry.f K x0_b x0_bad = some r) :
    Calls Try.prog 73 [.pointer (some ⟨g0, 0, none⟩)].toArray w (Ret fun v w' => ∃ (u0 : Value) (u1 : Value) (u2 : Value) (u3 : Value) (N : Mem) (M0 : Mem) (M1 : Mem) (M2 : Mem), v = .agg [iV r.1.Sess, iV r.1.Seq, iV r.1.Cmd.Kind, iV r.1.Cmd.Who, u0, u1, u2].toArray ∧ Sep w0 w' [N, bx g0 95 [u3, .bool r.2.2], M0, M1, M2] Z ∧ Own Kd.u8 5 M0 Mem.no u0 r.1.Cmd.Key ∧ Own Kd.u8 5 M1 Mem.no u1 r.1.Cmd.Val ∧ Own Kd.u8 5 M2 Mem.no u2 r.1.Cmd.Old ∧ Rd Kd.u8 (A.un N) u3 r.2.1) := by
 unfold mach_GetEntry.f at H
 refine f_enter _ Try.func73 rfl Try.ntmps73 rfl fun a h=>?_
 replace h : Fr 34 a [(0, .pointer (some ⟨g0, 0, none⟩))] := h
 replace hS := hS.start
 refine qr <| v_alloc h rfl ti30 hS fun w_1 g_1 hS' a h => ?_
 replace hS : Sep w0 w_1 [_, _, bx g_1 30 [iV 0, iV 0, iV 0, iV 0, nS, nS, nS]] Z := hS'
 refine nx <| qr <| mv h rfl fun a h=>?_
 obtain ⟨t_1, et_1, H⟩ := bs H
 refine s_call h rfl Try.call70 rfl (pack_Reader_Num.calls K _ x0_b _ x0_bad 1073741824 t_1 w0 _ _ A (hA.trans (hS.le_zed [0])) (hS.enter [0] (by decide)) hp0_0 et_1) ?_
 rintro _ w_2 ⟨v_1, N_1, rfl, hS', hr_1⟩
 intro a h
 obtain ⟨N_2, hS'', le_1, ln_1⟩ := hS.call [0] (by decide) rfl (l' := [_]) (ow := []) rfl hS'
 replace hS : Sep w0 w_2 [N_2, _, _] Z := hS''
 have hr_2 : Rd Kd.u8 (A.un N_2) v_1 t_1.2.1 := hr_1.mono (Mem.un_left ln_1)
 refine mv h rfl fun a h=>?_
 obtain ⟨t_2, et_2, H⟩ := bs H
 refine s_call h rfl Try.call70 rfl (pack_Reader_Num.calls K _ t_1.2.1 _ t_1.2.2 1073741824 t_2 w0 _ _ (A.un N_2) (Mem.un_le (hA.trans (hS.le_zed [0])) (hS.new_zed [0])) (hS.enter [0] (by decide)) hr_2 et_2) ?_
 rintro _ w_3 ⟨v_2, N_3, rfl, hS', hr_3⟩
 intro a h
 obtain ⟨N_4, hS'', le_2, ln_2⟩ := hS.call [0] (by decide) rfl (l' := [_]) (ow := []) rfl hS'
 replace hS : Sep w0 w_3 [N_4, _, _] Z := hS''
 have hr_4 : Rd Kd.u8 (A.un N_4) v_2 t_2.2.1 := hr_3.mono (Mem.un_le (Mem.un_left le_2) (ln_2.trans (hS.sndA hA)))
 refine s_build h rfl ti30 pl30 rfl (.cons rfl (.cons rfl .nil)) (cs := [iV t_1.1, iV t_2.1, iV 0, iV 0, nS, nS, nS]) (by kernel_rfl) fun a h=>v_alloc h rfl ti30 hS fun w_4 g_2 hS' a h => ?_
 replace hS : Sep w0 w_4 [_, _, _, bx g_2 30 [iV 0, iV 0, iV 0, iV 0, nS, nS, nS]] Z := hS'
 refine sto 3 h rfl rfl hS rfl ti30 rfl rfl rfl (oz rfl) fun w_5 hS' => ?_
 replace hS : Sep w0 w_5 [_, _, _, bx g_2 30 [iV t_1.1, iV t_2.1, _, _, _, _, _]] Z := hS'
 refine nx <| qr <| mv h rfl fun a h=>?_
 obtain ⟨t_3, et_3, H⟩ := bs H
 refine s_call h rfl Try.call70 rfl (pack_Reader_Num.calls K _ t_2.2.1 _ t_2.2.2 1073741824 t_3 w0 _ _ (A.un N_4) (Mem.un_le (hA.trans (hS.le_zed [0])) (hS.new_zed [0])) (hS.enter [0] (by decide)) hr_4 et_3) ?_
 rintro _ w_6 ⟨v_3, N_5, rfl, hS', hr_5⟩
 intro a h
 obtain ⟨N_6, hS'', le_3, ln_3⟩ := hS.call [0] (by decide) rfl (l' := [_]) (ow := []) rfl hS'
 replace hS : Sep w0 w_6 [N_6, _, _, _] Z := hS''
 have hr_6 : Rd Kd.u8 (A.un N_6) v_3 t_3.2.1 := hr_5.mono (Mem.un_le (Mem.un_left le_3) (ln_3.trans (hS.sndA hA)))
 refine mv h rfl fun a h=>?_
 obtain ⟨t_4, et_4, H⟩ := bs H
 refine s_call h rfl Try.call70 rfl (pack_Reader_Num.calls K _ t_3.2.1 _ t_3.2.2 1073741824 t_4 w0 _ _ (A.un N_6) (Mem.un_le (hA.trans (hS.le_zed [0])) (hS.new_zed [0])) (hS.enter [0] (by decide)) hr_6 et_4) ?_
 rintro _ w_7 ⟨v_4, N_7, rfl, hS', hr_7⟩
 intro a h
 obtain ⟨N_8, hS'', le_4, ln_4⟩ := hS.call [0] (by decide) rfl (l' := [_]) (ow := []) rfl hS'
 replace hS : Sep w0 w_7 [N_8, _, _, _] Z := hS''
 have hr_8 : Rd Kd.u8 (A.un N_8) v_4 t_4.2.1 := hr_7.mono (Mem.un_le (Mem.un_left le_4) (ln_4.trans (hS.sndA hA)))
 refine s_fieldAddr h rfl U30 rfl ti28 rfl rfl fun a h=>s_fieldAddr h rfl U28 rfl ti3 rfl rfl fun a h=>?_
 refine sto 3 h rfl rfl hS rfl ti3 rfl rfl rfl (oz rfl) fun w_8 hS' => ?_
 replace hS : Sep w0 w_8 [_, _, _, bx g_2 30 [_, _, iV t_3.1, _, _, _, _]] Z := hS'
 refine s_fieldAddr h rfl U30 rfl ti28 rfl rfl fun a h=>s_fieldAddr h rfl U28 rfl ti3 rfl rfl fun a h=>?_
 refine sto 3 h rfl rfl hS rfl ti3 rfl rfl rfl (oz rfl) fun w_9 hS' => ?_
 replace hS : Sep w0 w_9 [_, _, _, bx g_2 30 [_, _, _, iV t_4.1, _, _, _]] Z := hS'
 refine nx <| qr <| mv h rfl fun a h=>?_
 obtain ⟨t_5, et_5, H⟩ := bs H
 refine s_call h rfl Try.call71 rfl (pack_Reader_Bytes.calls K _ t_4.2.1 _ t_4.2.2 32 t_5 w0 _ _ (A.un N_8) (Mem.un_le (hA.trans (hS.le_zed [0])) (hS.new_zed [0])) (hS.enter [0] (by decide)) hr_8 et_5) ?_
 rintro v_5 w_10 ⟨_, v_6, N_9, M_1, rfl, hS', hr_9, hr_10⟩
 intro a h
 obtain ⟨N_10, hS'', le_5, ln_5⟩ := hS.call [0] (by decide) rfl (l' := [_]) (ow := [_]) rfl hS'
 replace hS : Sep w0 w_10 [N_10, _, _, _, _] Z := hS''
 have hr_11 : Rd Kd.u8 (A.un N_10) v_6 t_5.2.1 := hr_10.mono (Mem.un_le (Mem.un_left le_5) (ln_5.trans (hS.sndA hA)))
 refine mv h rfl fun a h=>?_
 obtain ⟨t_6, et_6, H⟩ := bs H
 refine s_call h rfl Try.call71 rfl (pack_Reader_Bytes.calls K _ t_5.2.1 _ t_5.2.2 32 t_6 w0 _ _ (A.un N_10) (Mem.un_le (hA.trans (hS.le_zed [0])) (hS.new_zed [0])) (hS.enter [0] (by decide)) hr_11 et_6) ?_
 rintro v_7 w_11 ⟨_, v_8, N_11, M_2, rfl, hS', hr_12, hr_13⟩
 intro a h
 obtain ⟨N_12, hS'', le_6, ln_6⟩ := hS.call [0] (by decide) rfl (l' := [_]) (ow := [_]) rfl hS'
 replace hS : Sep w0 w_11 [N_12, _, _, _, _, _] Z := hS''
 have hr_14 : Rd Kd.u8 (A.un N_12) v_8 t_6.2.1 := hr_13.mono (Mem.un_le (Mem.un_left le_6) (ln_6.trans (hS.sndA hA)))
 refine mv h rfl fun a h=>?_
 obtain ⟨t_7, et_7, H⟩ := bs H
 refine s_call h rfl Try.call71 rfl (pack_Reader_Bytes.calls K _ t_6.2.1 _ t_6.2.2 32 t_7 w0 _ _ (A.un N_12) (Mem.un_le (hA.trans (hS.le_zed [0])) (hS.new_zed [0])) (hS.enter [0] (by decide)) hr_14 et_7) ?_
 rintro v_9 w_12 ⟨_, v_10, N_13, M_3, rfl, hS', hr_15, hr_16⟩
 intro a h
 obtain ⟨N_14, hS'', le_7, ln_7⟩ := hS.call [0] (by decide) rfl (l' := [_]) (ow := [_]) rfl hS'
 replace hS : Sep w0 w_12 [N_14, _, _, _, _, _, _] Z := hS''
 have hr_17 : Rd Kd.u8 (A.un N_14) v_10 t_7.2.1 := hr_16.mono (Mem.un_le (Mem.un_left le_7) (ln_7.trans (hS.sndA hA)))
 refine s_fieldAddr h rfl U30 rfl ti28 rfl rfl fun a h=>s_fieldAddr h rfl U28 rfl ti26 rfl rfl fun a h=>?_
 refine sto 3 h rfl rfl hS rfl ti26 hr_9.cellsA rfl rfl (oc hr_9.one on0) fun w_13 hS' => ?_
 replace hS : Sep w0 w_13 [_, _, _, bx g_2 30 [_, _, _, _, v_5, _, _], _, _, _] Z := hS'
 refine s_fieldAddr h rfl U30 rfl ti28 rfl rfl fun a h=>s_fieldAddr h rfl U28 rfl ti26 rfl rfl fun a h=>?_
 refine sto 3 h rfl rfl hS rfl ti26 hr_12.cellsA rfl rfl (oc hr_12.one on0) fun w_14 hS' => ?_
 replace hS : Sep w0 w_14 [_, _, _, bx g_2 30 [_, _, _, _, _, v_7, _], _, _, _] Z := hS'
 refine s_fieldAddr h rfl U30 rfl ti28 rfl rfl fun a h=>s_fieldAddr h rfl U28 rfl ti26 rfl rfl fun a h=>?_
 refine sto 3 h rfl rfl hS rfl ti26 hr_15.cellsA rfl rfl (oc hr_15.one on0) fun w_15 hS' => ?_
 replace hS : Sep w0 w_15 [_, _, _, bx g_2 30 [_, _, _, _, _, _, v_9], _, _, _] Z := hS'
 refine wpList_nil ?_
 replace h : Fr 34 a [(0, _), (2, .pointer (some ⟨g_1, 0, none⟩)), (3, .pointer (some ⟨g_2, 0, none⟩))] := h.keep [0, 2, 3]
 refine x_then_n <| c_seq fun KJ_1 hKJ_1 => qr <| mv h rfl fun a h=>?_
 obtain ⟨t_8, et_8, H⟩ := bs H
 refine s_call h rfl Try.call80 rfl (pack_Reader_Ok.calls _ t_7.2.1 _ t_7.2.2 t_8 w0 _ _ _ mr (hS.enter [0] (by decide)) (hr_17.mono (Mem.un_le (hA.trans (hS.le_zed [0])) (mr.trans (hS.new_zed [0])))) et_8) ?_
 rintro _ w_16 ⟨N_15, rfl, hS'⟩
 intro a h
 obtain ⟨N_16, hS'', le_8, ln_8⟩ := hS.call [0] (by decide) rfl (l' := [_]) (ow := []) rfl hS'
 replace hS : Sep w0 w_16 [N_16, _, _, _, _, _, _] Z := hS''
 refine s_not h rfl rfl fun a h=>wpList_nil <| x_then_n ?_
 obtain ⟨hc_1, H⟩ | ⟨hc_1, H⟩ := ii H
 ·refine c_cond_f h rfl (nf hc_1) <| wp_skip <| x_then_n (hKJ_1 _ _ ?_)
  refine qr <| s_load h rfl rfl (hS.load_agg (p := 3) (us := [iV t_1.1, iV t_2.1, iV t_3.1, iV t_4.1, v_5, v_7, v_9]) rfl U30 rfl ti30 rfl rfl) fun a h=>?_
  refine sto 2 h rfl rfl hS rfl ti30 rfl rfl rfl (oa 4 rfl (oc hr_9.one (oc hr_12.one (oc hr_15.one on0)))) fun w_17 hS' => ?_
  replace hS : Sep w0 w_17 [_, _, bx g_1 30 [iV t_1.1, iV t_2.1, iV t_3.1, iV t_4.1, v_5, v_7, v_9], _, _, _, _] Z := hS'
  refine nx <| wp_ret ?_
  obtain rfl := Option.some.inj H
  exact f_ret h (rs := [.cell 2 30]) rfl (.cell rfl (hS.load_agg (p := 2) (us := [iV t_1.1, iV t_2.1, iV t_3.1, iV t_4.1, v_5, v_7, v_9]) rfl U30 rfl ti30 rfl rfl) .nil) ⟨_, rfl, v_5, v_7, v_9, v_10, N_16, M_1, M_2, M_3, rfl, (hS.sel [0, 1, 4, 5, 6] (by decide)), hr_9, hr_12, hr_15, (hr_17.mono (Mem.un_left le_8))⟩
 ·refine c_cond_t h rfl (nt (ef hc_1)) <| qr <| s_build h rfl ti30 pl30 rfl .nil (cs := [iV 0, iV 0, iV 0, iV 0, nS, nS, nS]) (by kernel_rfl) fun a h=>?_
  refine sto 2 h rfl rfl hS rfl ti30 rfl rfl rfl (oz rfl) fun w_18 hS' => ?_
  replace hS : Sep w0 w_18 [_, _, _, _, _, _, _] Z := hS'
  refine nx <| wp_ret (x_then_r ?_)
  have hS' := hS.room
  replace hS : Sep w0 w_18 [_, _, _, _, _, _, _, Mem.no] Z := hS'
  have hS' := hS.room
  replace hS : Sep w0 w_18 [_, _, _, _, _, _, _, _, Mem.no] Z := hS'
  have hS' := hS.room
  replace hS : Sep w0 w_18 [_, _, _, _, _, _, _, _, _, Mem.no] Z := hS'
  obtain rfl := Option.some.inj H
  exact f_ret h (rs := [.cell 2 30]) rfl (.cell rfl (hS.load_agg (p := 2) (us := [iV 0, iV 0, iV 0, iV 0, nS, nS, nS]) rfl U30 rfl ti30 rfl rfl) .nil) ⟨_, rfl, nS, nS, nS, v_10, N_16, Mem.no, Mem.no, Mem.no, rfl, (hS.sel [0, 1, 7, 8, 9] (by decide)), (Own.nil Kd.u8 5 Mem.no), (Own.nil Kd.u8 5 Mem.no), (Own.nil Kd.u8 5 Mem.no), (hr_17.mono (Mem.un_left le_8))⟩

set_option maxHeartbeats 4000000 in
set_option maxRecDepth 20000 in
theorem pack_Reader_End.calls (g0 : Nat) (x0_b : List UInt8) (p0_0 : Value) (x0_bad : Bool) (r : Bool) (w0 w : World) (Z A : Mem) (hA : A.le Z) (hS : Sep w0 w [bx g0 95 [p0_0, .bool x0_bad]] Z) (hp0_0 : Rd Kd.u8 A p0_0 x0_b)
    (H : pack_Reader_End.f x0_b x0_bad = some r) :
    Calls Try.prog 74 [.pointer (some ⟨g0, 0, none⟩)].toArray w (Ret fun v w' => ∃ (N : Mem), v = .bool r ∧ Sep w0 w' [N, bx g0 95 [p0_0, .bool x0_bad]] Z) := by
 unfold pack_Reader_End.f at H
 refine f_enter _ Try.func74 rfl Try.ntmps74 rfl fun a h=>?_
 replace h : Fr 16 a [(0, .pointer (some ⟨g0, 0, none⟩))] := h
 replace hS := hS.start
 refine qr <| sg h rfl fun a h=>nx <| c_seq fun KJ_1 hKJ_1 => wp_region_lit <| mv h rfl fun a h=>s_nilCheck h rfl rfl fun a h=>s_fieldAddr h rfl U95 rfl ti4 rfl rfl fun a h=>s_load h rfl rfl (hS.load_one (p := 1) rfl U4 rfl rfl) fun a h=>s_not h rfl rfl fun a h=>?_
 refine mv h rfl fun a h=>?_
 obtain ⟨hc_1, H⟩ | ⟨hc_1, H⟩ := ii H
 ·refine of h rfl rfl (nf hc_1) fun a h=>of h rfl rfl (nf hc_1) fun a h=>of h rfl rfl (nf hc_1) fun a h=>of h rfl rfl (nf hc_1) fun a h=>of h rfl rfl (nf hc_1) fun a h=>of h rfl rfl (nf hc_1) fun a h=>pf h rfl (nf hc_1) fun a h=>sg h rfl fun a h=>wpList_nil <| x_then_n (hKJ_1 _ _ ?_)
  refine wp_ret ?_
  obtain rfl := Option.some.inj H
  exact r1 h 2 rfl rfl ⟨_, rfl, Mem.no, rfl, (hS.sel [0, 1] (by decide))⟩
 ·refine s_on h rfl rfl (nt (ef hc_1)) <| mv h rfl fun a h=>s_on h rfl rfl (nt (ef hc_1)) <| s_nilCheck h rfl rfl fun a h=>s_on h rfl rfl (nt (ef hc_1)) <| s_fieldAddr h rfl U95 rfl ti26 rfl rfl fun a h=>s_on h rfl rfl (nt (ef hc_1)) <| s_load h rfl rfl (hS.load_one (p := 1) rfl U26 rfl rfl) fun a h=>s_on h rfl rfl (nt (ef hc_1)) <| s_len h rfl U26 rfl hp0_0 fun a h=>s_on h rfl rfl (nt (ef hc_1)) <| s_cmp (b := ((x0_b.length : Int) == 0)) h rfl rfl rfl (.inl ⟨rfl, rfl⟩) fun a h=>?_
  refine pt h rfl (nt (ef hc_1)) fun a h=>sg h rfl fun a h=>wpList_nil <| x_then_n (hKJ_1 _ _ ?_)
  refine wp_ret ?_
  obtain rfl := Option.some.inj H
  exact r1 h 2 rfl rfl ⟨_, rfl, Mem.no, rfl, (hS.sel [0, 1] (by decide))⟩

set_option maxHeartbeats 4000000 in
set_option maxRecDepth 20000 in
theorem mesg_read.calls (K : Nat) (x0 : List UInt8) (p0_0 : Value) (r : api_Msg × Bool) (w0 w : World) (Z A : Mem) (hA : A.le Z) (hS : Sep w0 w [] Z) (hp0_0 : Rd Kd.u8 A p0_0 x0)
    (H : mesg_read.f K x0 = some r) :
    Calls Try.prog 57 [p0_0].toArray w (Ret fun v w' => ∃ (u0 : Value) (u1 : Value) (u2 : Value) (u3 : Value) (u4 : Value) (u5 : Value) (N : Mem) (M0 : Mem) (M1 : Mem) (M2 : Mem) (M3 : Mem) (M4 : Mem) (M5 : Mem), v = .tuple [.agg [iV r.1.Kind, iV r.1.From, iV r.1.To, iV r.1.View, iV r.1.Inst, iV r.1.Len, .bool r.1.Has, iV r.1.Members, iV r.1.Source, iV r.1.At, iV r.1.Total, u0, iV r.1.Hop, iV r.1.Seq, u1, u2, iV r.1.Index, iV r.1.Entry.Sess, iV r.1.Entry.Seq, iV r.1.Entry.Cmd.Kind, iV r.1.Entry.Cmd.Who, u3, u4, u5].toArray, .bool r.2].toArray ∧ Sep w0 w' [N, M0, M1, M2, M3, M4, M5] Z ∧ Own Kd.u8 5 M0 Mem.no u0 r.1.Data ∧ Own (Kd.int .i64) 3 M1 Mem.no u1 r.1.Have ∧ Own (Kd.int .i64) 3 M2 Mem.no u2 r.1.Need ∧ Own Kd.u8 5 M3 Mem.no u3 r.1.Entry.Cmd.Key ∧ Own Kd.u8 5 M4 Mem.no u4 r.1.Entry.Cmd.Val ∧ Own Kd.u8 5 M5 Mem.no u5 r.1.Entry.Cmd.Old) := by
 unfold mesg_read.f at H
 refine f_enter _ Try.func57 rfl Try.ntmps57 rfl fun a h=>?_
 replace h : Fr 87 a [(0, p0_0)] := h
 replace hS := hS.start
 refine qr <| v_alloc h rfl ti32 hS fun w_1 g_1 hS' a h => ?_
 replace hS : Sep w0 w_1 [_, bx g_1 32 Q0] Z := hS'
 refine sg h rfl fun a h=>nx <| qr <| mv h rfl fun a h=>?_
 obtain ⟨t_1, et_1, H⟩ := bs H
 refine s_call h rfl Try.call69 rfl (pack_Read.calls x0 _ t_1 w0 _ _ _ mr (hS.enter [] (by decide)) (hp0_0.mono (hA.trans (hS.le_zed []))) et_1) ?_
 rintro _ w_2 ⟨g_2, v_1, N_1, rfl, hS', hr_1⟩
 intro a h
 obtain ⟨N_2, hS'', le_1, ln_1⟩ := hS.call [] (by decide) rfl (l' := []) (ow := [_]) rfl hS'
 replace hS : Sep w0 w_2 [N_2, _, _] Z := hS''
 refine sg h rfl fun a h=>nx <| qr <| mv h rfl fun a h=>?_
 obtain ⟨t_2, et_2, H⟩ := bs H
 refine s_call h rfl Try.call70 rfl (pack_Reader_Num.calls K _ t_1.1 _ t_1.2 8 t_2 w0 _ _ N_2 (hS.new_zed [1]) (hS.enter [1] (by decide)) (hr_1.mono ln_1) et_2) ?_
 rintro _ w_3 ⟨v_2, N_3, rfl, hS', hr_2⟩
 intro a h
 obtain ⟨N_4, hS'', le_2, ln_2⟩ := hS.call [1] (by decide) rfl (l' := [_]) (ow := []) rfl hS'
 replace hS : Sep w0 w_3 [N_4, _, _] Z := hS''
 refine mv h rfl fun a h=>?_
 obtain ⟨t_3, et_3, H⟩ := bs H
 refine s_call h rfl Try.call70 rfl (pack_Reader_Num.calls K _ t_2.2.1 _ t_2.2.2 6 t_3 w0 _ _ N_4 (hS.new_zed [1]) (hS.enter [1] (by decide)) (hr_2.mono (Mem.un_le le_2 ln_2)) et_3) ?_
 rintro _ w_4 ⟨v_3, N_5, rfl, hS', hr_3⟩
 intro a h
 obtain ⟨N_6, hS'', le_3, ln_3⟩ := hS.call [1] (by decide) rfl (l' := [_]) (ow := []) rfl hS'
 replace hS : Sep w0 w_4 [N_6, _, _] Z := hS''
 refine mv h rfl fun a h=>?_
 obtain ⟨t_4, et_4, H⟩ := bs H
 refine s_call h rfl Try.call70 rfl (pack_Reader_Num.calls K _ t_3.2.1 _ t_3.2.2 6 t_4 w0 _ _ N_6 (hS.new_zed [1]) (hS.enter [1] (by decide)) (hr_3.mono (Mem.un_le le_3 ln_3)) et_4) ?_
 rintro _ w_5 ⟨v_4, N_7, rfl, hS', hr_4⟩
 intro a h
 obtain ⟨N_8, hS'', le_4, ln_4⟩ := hS.call [1] (by decide) rfl (l' := [_]) (ow := []) rfl hS'
 replace hS : Sep w0 w_5 [N_8, _, _] Z := hS''
 refine mv h rfl fun a h=>?_
 obtain ⟨t_5, et_5, H⟩ := bs H
 refine s_call h rfl Try.call70 rfl (pack_Reader_Num.calls K _ t_4.2.1 _ t_4.2.2 1099511627776 t_5 w0 _ _ N_8 (hS.new_zed [1]) (hS.enter [1] (by decide)) (hr_4.mono (Mem.un_le le_4 ln_4)) et_5) ?_
 rintro _ w_6 ⟨v_5, N_9, rfl, hS', hr_5⟩
 intro a h
 obtain ⟨N_10, hS'', le_5, ln_5⟩ := hS.call [1] (by decide) rfl (l' := [_]) (ow := []) rfl hS'
 replace hS : Sep w0 w_6 [N_10, _, _] Z := hS''
 refine s_build h rfl ti32 pl32 rfl (.cons rfl (.cons rfl (.cons rfl (.cons rfl .nil)))) (cs := [iV t_2.1, iV t_3.1, iV t_4.1, iV t_5.1, iV 0, iV 0, .bool false, iV 0, iV 0, iV 0, iV 0, nS, iV 0, iV 0, nS, nS, iV 0, iV 0, iV 0, iV 0, iV 0, nS, nS, nS]) (by kernel_rfl) fun a h=>v_alloc h rfl ti32 hS fun w_7 g_3 hS' a h => ?_
 replace hS : Sep w0 w_7 [_, _, _, bx g_3 32 Q0] Z := hS'
 refine sto 3 h rfl rfl hS rfl ti32 rfl rfl rfl (oz rfl) fun w_8 hS' => ?_
 replace hS : Sep w0 w_8 [_, _, _, bx g_3 32 [iV t_2.1, iV t_3.1, iV t_4.1, iV t_5.1, _, _, _, _, _, _, _, _, _, _, _, _, _, _, _, _, _, _, _, _]] Z := hS'
 refine nx <| c_seq fun KJ_1 hKJ_1 => qr <| s_fieldAddr h rfl U32 rfl ti3 rfl rfl fun a h=>s_load h rfl rfl (hS.load_one (p := 3) rfl U3 rfl rfl) fun a h=>wpList_nil ?_
 replace h : Fr 87 a [(2, .pointer (some ⟨g_1, 0, none⟩)), (3, .bool false), (4, .pointer (some ⟨g_2, 0, none⟩)), (5, .pointer (some ⟨g_3, 0, none⟩)), (18, iV t_2.1)] := h.keep [2, 3, 4, 5, 18]
 refine x_then_n ?_
 have hJ_j_1 : ∀ (x_1 : pack_Reader), ∀ (x_2 : api_Msg), mesg_read.J1 K x_1 x_2 = some r → ∀ (a : Act) (w_9 : World), (∃ (v_6 : Value) (v_7 : Value) (v_8 : Value) (v_9 : Value) (v_10 : Value) (v_11 : Value) (v_12 : Value) (N_11 : Mem) (M_1 : Mem) (M_2 : Mem) (M_3 : Mem) (M_4 : Mem) (M_5 : Mem) (M_6 : Mem), Fr 87 a [(2, .pointer (some ⟨g_1, 0, none⟩)), (3, .bool false), (4, .pointer (some ⟨g_2, 0, none⟩)), (5, .pointer (some ⟨g_3, 0, none⟩))] ∧ Sep w0 w_9 [N_11, bx g_1 32 Q0, bx g_2 95 [v_6, .bool x_1.bad], bx g_3 32 (E32 x_2 v_7 v_8 v_9 v_10 v_11 v_12), M_1, M_2, M_3, M_4, M_5, M_6] Z ∧ N_10.le N_11 ∧ Rd Kd.u8 N_11 v_6 x_1.b ∧ Own Kd.u8 5 M_1 Mem.no v_7 x_2.Data ∧ Own (Kd.int .i64) 3 M_2 Mem.no v_8 x_2.Have ∧ Own (Kd.int .i64) 3 M_3 Mem.no v_9 x_2.Need ∧ Own Kd.u8 5 M_4 Mem.no v_10 x_2.Entry.Cmd.Key ∧ Own Kd.u8 5 M_5 Mem.no v_11 x_2.Entry.Cmd.Val ∧ Own Kd.u8 5 M_6 Mem.no v_12 x_2.Entry.Cmd.Old) → KJ_1 a w_9 := by
  clear H h hS a
  rintro x_1 x_2 H a w_9 ⟨v_6, v_7, v_8, v_9, v_10, v_11, v_12, N_11, M_1, M_2, M_3, M_4, M_5, M_6, h, hS, le_6, hr_6, ho_1, ho_2, ho_3, ho_4, ho_5, ho_6⟩
  unfold mesg_read.J1 at H
  refine hKJ_1 _ _ <| c_seq fun KJ_2 hKJ_2 => h_begin (S := fun w => Sep w0 w [N_11, Mem.no, bx g_2 95 [v_6, .bool x_1.bad], bx g_3 32 (E32 x_2 v_7 v_8 v_9 v_10 v_11 v_12), M_1, M_2, M_3, M_4, M_5, M_6] Z) 5 (by kernel_rfl) rfl (bA 5 0) (by kernel_rfl) hS fun w_10 hS => ?_
  refine t_take 0 (bA 5 1) rfl rfl rfl rfl h (hS.sub (.cons mr (.zz .ii))) (v := .agg (E32 x_2 v_7 v_8 v_9 v_10 v_11 v_12).toArray) (fun w hS => r_load h rfl (hS.load_agg (p := 3) (us := (E32 x_2 v_7 v_8 v_9 v_10 v_11 v_12)) rfl U32 rfl ti32 rfl rfl)) fun a h=>t_take 1 (bA 5 3) rfl rfl rfl rfl h (hS.sub (.cons mr (.zz .ii))) (v := .pointer (some ⟨g_2, 0, none⟩)) (fun w hS => r_move h rfl) fun a h=>?_
  refine h_event 2 (bA 5 7) rfl (by kernel_rfl) (by kernel_rfl) ?_
  obtain ⟨t_6, et_6, H⟩ := bs H
  refine s_call h rfl Try.call74 rfl (pack_Reader_End.calls _ x_1.b _ x_1.bad t_6 w0 _ _ _ mr (hS.enter [1] (by decide)) (hr_6.mono (mr.trans (hS.new_zed [1]))) et_6) ?_
  rintro _ w_11 ⟨N_12, rfl, hS'⟩
  intro a h
  obtain ⟨N_13, hS'', le_7, ln_6⟩ := hS.call [1] (by decide) rfl (l' := [_]) (ow := []) rfl hS'
  replace hS : Sep w0 w_11 [N_13, _, _, _, _, _, _, _, _, _] Z := hS''
  refine wpList_nil <| x_then_n ⟨(hS.sub (.cons le_7 (.zz .ii))), ?_⟩
  refine h_event 3 (bA 5 15) rfl (by kernel_rfl) (by kernel_rfl) ?_
  refine sto 1 h rfl rfl hS rfl ti32 rfl rfl rfl (oa 11 rfl (oc ho_1.one (oa 2 rfl (oc ho_2.one (oc ho_3.one (oa 5 rfl (oc ho_4.one (oc ho_5.one (oc ho_6.one on0))))))))) fun w_12 hS' => ?_
  replace hS : Sep w0 w_12 [_, bx g_1 32 (E32 x_2 v_7 v_8 v_9 v_10 v_11 v_12), _, _, _, _, _, _, _, _] Z := hS'
  refine wpList_nil <| x_then_n ⟨(hS.sub (.cons le_7 (.zz .ii))), ?_⟩
  refine t_take 4 (bA 5 31) rfl rfl rfl rfl h (hS.sub (.cons le_7 (.zz .ii))) (v := .bool t_6) (fun w hS => r_assign h rfl) fun a h=>h_done (by kernel_rfl) <| x_then_n (hKJ_2 _ _ ?_)
  refine wp_ret ?_
  obtain rfl := Option.some.inj H
  exact f_ret h (rs := [.cell 2 32, .tmp 3]) rfl (.cell rfl (hS.load_agg (p := 1) (us := (E32 x_2 v_7 v_8 v_9 v_10 v_11 v_12)) rfl U32 rfl ti32 rfl rfl) (.tmp rfl .nil)) ⟨_, rfl, v_7, v_8, v_9, v_10, v_11, v_12, N_13, M_1, M_2, M_3, M_4, M_5, M_6, rfl, (hS.sel [0, 4, 5, 6, 7, 8, 9] (by decide)), ho_1, ho_2, ho_3, ho_4, ho_5, ho_6⟩
 clear hKJ_1
 refine c_block <| c_seq fun KJ_3 hKJ_3 => qr <| s_cmp (b := (t_2.1 == 1)) h rfl rfl rfl (.inl ⟨rfl, rfl⟩) fun a h=>sg h rfl fun a h=>wpList_nil <| x_then_n ?_
 have hJ_j_2 : ∀ (x_3 : Bool), mesg_read.J2 K t_5 t_2 t_3 t_4 x_3 = some r → ∀ (a : Act) (w_13 : World), (∃ (N_14 : Mem), Fr 87 a [(2, .pointer (some ⟨g_1, 0, none⟩)), (3, .bool false), (4, .pointer (some ⟨g_2, 0, none⟩)), (5, .pointer (some ⟨g_3, 0, none⟩)), (18, iV t_2.1), (20, .bool x_3)] ∧ Sep w0 w_13 [N_14, bx g_1 32 Q0, bx g_2 95 [v_5, .bool t_5.2.2], bx g_3 32 [iV t_2.1, iV t_3.1, iV t_4.1, iV t_5.1, iV 0, iV 0, .bool false, iV 0, iV 0, iV 0, iV 0, nS, iV 0, iV 0, nS, nS, iV 0, iV 0, iV 0, iV 0, iV 0, nS, nS, nS]] Z ∧ N_10.le N_14) → KJ_3 a w_13 := by
  clear H h hS a
  rintro x_3 H a w_13 ⟨N_14, h, hS, le_8⟩
  unfold mesg_read.J2 at H
  refine hKJ_3 _ _ ?_
  obtain ⟨hc_1, H⟩ | ⟨hc_1, H⟩ := ii H
  ·refine c_cond_t h rfl hc_1 <| wp_skip <| x_block_n ?_
   have hS' := hS.room
   replace hS : Sep w0 w_13 [_, _, _, _, Mem.no] Z := hS'
   have hS' := hS.room
   replace hS : Sep w0 w_13 [_, _, _, _, _, Mem.no] Z := hS'
   have hS' := hS.room
   replace hS : Sep w0 w_13 [_, _, _, _, _, _, Mem.no] Z := hS'
   have hS' := hS.room
   replace hS : Sep w0 w_13 [_, _, _, _, _, _, _, Mem.no] Z := hS'
   have hS' := hS.room
   replace hS : Sep w0 w_13 [_, _, _, _, _, _, _, _, Mem.no] Z := hS'
   have hS' := hS.room
   replace hS : Sep w0 w_13 [_, _, _, _, _, _, _, _, _, Mem.no] Z := hS'
   exact x_then_n (hJ_j_1 (⟨t_5.2.1, t_5.2.2⟩ : pack_Reader) (⟨t_2.1, t_3.1, t_4.1, t_5.1, 0, 0, false, 0, 0, 0, 0, ([] : List UInt8), 0, 0, ([] : List Int), ([] : List Int), 0, (⟨0, 0, (⟨0, 0, ([] : List UInt8), ([] : List UInt8), ([] : List UInt8)⟩ : api_Cmd)⟩ : api_Entry)⟩ : api_Msg) H _ _ ⟨v_5, nS, nS, nS, nS, nS, nS, N_14, Mem.no, Mem.no, Mem.no, Mem.no, Mem.no, Mem.no, (h.keep [2, 3, 4, 5]), (hS.sel [0, 1, 2, 3, 4, 5, 6, 7, 8, 9] (by decide)), le_8, ((hr_5.mono (Mem.un_le le_5 ln_5)).mono le_8), (Own.nil Kd.u8 5 Mem.no), (Own.nil (Kd.int .i64) 3 Mem.no), (Own.nil (Kd.int .i64) 3 Mem.no), (Own.nil Kd.u8 5 Mem.no), (Own.nil Kd.u8 5 Mem.no), (Own.nil Kd.u8 5 Mem.no)⟩)
  ·refine c_cond_f h rfl (ef hc_1) <| qr <| s_cmp (b := (t_2.1 == 2)) h rfl rfl rfl (.inl ⟨rfl, rfl⟩) fun a h=>sg h rfl fun a h=>wpList_nil <| x_then_n ?_
   obtain ⟨hc_2, H⟩ | ⟨hc_2, H⟩ := ii H
   ·refine c_cond_t h rfl (bt hc_2) <| wp_region_lit <| mv h rfl fun a h=>?_
    obtain ⟨t_7, et_7, H⟩ := bs H
    refine s_call h rfl Try.call70 rfl (pack_Reader_Num.calls K _ t_5.2.1 _ t_5.2.2 1099511627776 t_7 w0 _ _ N_14 (hS.new_zed [1]) (hS.enter [1] (by decide)) ((hr_5.mono (Mem.un_le le_5 ln_5)).mono le_8) et_7) ?_
    rintro _ w_14 ⟨v_13, N_15, rfl, hS', hr_7⟩
    intro a h
    obtain ⟨N_16, hS'', le_9, ln_7⟩ := hS.call [1] (by decide) rfl (l' := [_]) (ow := []) rfl hS'
    replace hS : Sep w0 w_14 [N_16, _, _, _] Z := hS''
    refine mv h rfl fun a h=>?_
    obtain ⟨t_8, et_8, H⟩ := bs H
    refine s_call h rfl Try.call70 rfl (pack_Reader_Num.calls K _ t_7.2.1 _ t_7.2.2 1099511627776 t_8 w0 _ _ N_16 (hS.new_zed [1]) (hS.enter [1] (by decide)) (hr_7.mono (Mem.un_le le_9 ln_7)) et_8) ?_
    rintro _ w_15 ⟨v_14, N_17, rfl, hS', hr_8⟩
    intro a h
    obtain ⟨N_18, hS'', le_10, ln_8⟩ := hS.call [1] (by decide) rfl (l' := [_]) (ow := []) rfl hS'
    replace hS : Sep w0 w_15 [N_18, _, _, _] Z := hS''
    refine mv h rfl fun a h=>?_
    obtain ⟨t_9, et_9, H⟩ := bs H
    refine s_call h rfl Try.call70 rfl (pack_Reader_Num.calls K _ t_8.2.1 _ t_8.2.2 1 t_9 w0 _ _ N_18 (hS.new_zed [1]) (hS.enter [1] (by decide)) (hr_8.mono (Mem.un_le le_10 ln_8)) et_9) ?_
    rintro _ w_16 ⟨v_15, N_19, rfl, hS', hr_9⟩
    intro a h
    obtain ⟨N_20, hS'', le_11, ln_9⟩ := hS.call [1] (by decide) rfl (l' := [_]) (ow := []) rfl hS'
    replace hS : Sep w0 w_16 [N_20, _, _, _] Z := hS''
    refine s_cmp (b := (t_9.1 == 1)) h rfl rfl rfl (.inl ⟨rfl, rfl⟩) fun a h=>s_fieldAddr h rfl U32 rfl ti3 rfl rfl fun a h=>?_
    refine sto 3 h rfl rfl hS rfl ti3 rfl rfl rfl (oz rfl) fun w_17 hS' => ?_
    replace hS : Sep w0 w_17 [_, _, _, bx g_3 32 [_, _, _, _, iV t_7.1, _, _, _, _, _, _, _, _, _, _, _, _, _, _, _, _, _, _, _]] Z := hS'
    refine s_fieldAddr h rfl U32 rfl ti3 rfl rfl fun a h=>?_
    refine sto 3 h rfl rfl hS rfl ti3 rfl rfl rfl (oz rfl) fun w_18 hS' => ?_
    replace hS : Sep w0 w_18 [_, _, _, bx g_3 32 [_, _, _, _, _, iV t_8.1, _, _, _, _, _, _, _, _, _, _, _, _, _, _, _, _, _, _]] Z := hS'
    refine s_fieldAddr h rfl U32 rfl ti4 rfl rfl fun a h=>?_
    refine sto 3 h rfl rfl hS rfl ti4 rfl rfl rfl (oz rfl) fun w_19 hS' => ?_
    replace hS : Sep w0 w_19 [_, _, _, bx g_3 32 [_, _, _, _, _, _, .bool (t_9.1 == 1), _, _, _, _, _, _, _, _, _, _, _, _, _, _, _, _, _]] Z := hS'
    refine wpList_nil <| x_block_n ?_
    have hS' := hS.room
    replace hS : Sep w0 w_19 [_, _, _, _, Mem.no] Z := hS'
    have hS' := hS.room
    replace hS : Sep w0 w_19 [_, _, _, _, _, Mem.no] Z := hS'
    have hS' := hS.room
    replace hS : Sep w0 w_19 [_, _, _, _, _, _, Mem.no] Z := hS'
    have hS' := hS.room
    replace hS : Sep w0 w_19 [_, _, _, _, _, _, _, Mem.no] Z := hS'
    have hS' := hS.room
    replace hS : Sep w0 w_19 [_, _, _, _, _, _, _, _, Mem.no] Z := hS'
    have hS' := hS.room
    replace hS : Sep w0 w_19 [_, _, _, _, _, _, _, _, _, Mem.no] Z := hS'
    exact x_then_n (hJ_j_1 (⟨t_9.2.1, t_9.2.2⟩ : pack_Reader) (⟨t_2.1, t_3.1, t_4.1, t_5.1, t_7.1, t_8.1, (t_9.1 == 1), 0, 0, 0, 0, ([] : List UInt8), 0, 0, ([] : List Int), ([] : List Int), 0, (⟨0, 0, (⟨0, 0, ([] : List UInt8), ([] : List UInt8), ([] : List UInt8)⟩ : api_Cmd)⟩ : api_Entry)⟩ : api_Msg) H _ _ ⟨v_15, nS, nS, nS, nS, nS, nS, N_20, Mem.no, Mem.no, Mem.no, Mem.no, Mem.no, Mem.no, (h.keep [2, 3, 4, 5]), (hS.sel [0, 1, 2, 3, 4, 5, 6, 7, 8, 9] (by decide)), (le_8.trans (le_9.trans (le_10.trans le_11))), (hr_9.mono (Mem.un_le le_11 ln_9)), (Own.nil Kd.u8 5 Mem.no), (Own.nil (Kd.int .i64) 3 Mem.no), (Own.nil (Kd.int .i64) 3 Mem.no), (Own.nil Kd.u8 5 Mem.no), (Own.nil Kd.u8 5 Mem.no), (Own.nil Kd.u8 5 Mem.no)⟩)
   ·refine c_cond_f h rfl (bf hc_2) <| qr <| s_cmp (b := (t_2.1 == 3)) h rfl rfl rfl (.inl ⟨rfl, rfl⟩) fun a h=>sg h rfl fun a h=>wpList_nil <| x_then_n ?_
    obtain ⟨hc_3, H⟩ | ⟨hc_3, H⟩ := ii H
    ·refine c_cond_t h rfl (bt hc_3) <| wp_region_lit <| mv h rfl fun a h=>?_
     obtain ⟨t_10, et_10, H⟩ := bs H
     refine s_call h rfl Try.call70 rfl (pack_Reader_Num.calls K _ t_5.2.1 _ t_5.2.2 127 t_10 w0 _ _ N_14 (hS.new_zed [1]) (hS.enter [1] (by decide)) ((hr_5.mono (Mem.un_le le_5 ln_5)).mono le_8) et_10) ?_
     rintro _ w_20 ⟨v_16, N_21, rfl, hS', hr_10⟩
     intro a h
     obtain ⟨N_22, hS'', le_12, ln_10⟩ := hS.call [1] (by decide) rfl (l' := [_]) (ow := []) rfl hS'
     replace hS : Sep w0 w_20 [N_22, _, _, _] Z := hS''
     refine mv h rfl fun a h=>?_
     obtain ⟨t_11, et_11, H⟩ := bs H
     refine s_call h rfl Try.call70 rfl (pack_Reader_Num.calls K _ t_10.2.1 _ t_10.2.2 6 t_11 w0 _ _ N_22 (hS.new_zed [1]) (hS.enter [1] (by decide)) (hr_10.mono (Mem.un_le le_12 ln_10)) et_11) ?_
     rintro _ w_21 ⟨v_17, N_23, rfl, hS', hr_11⟩
     intro a h
     obtain ⟨N_24, hS'', le_13, ln_11⟩ := hS.call [1] (by decide) rfl (l' := [_]) (ow := []) rfl hS'
     replace hS : Sep w0 w_21 [N_24, _, _, _] Z := hS''
     refine mv h rfl fun a h=>?_
     obtain ⟨t_12, et_12, H⟩ := bs H
     refine s_call h rfl Try.call70 rfl (pack_Reader_Num.calls K _ t_11.2.1 _ t_11.2.2 1099511627776 t_12 w0 _ _ N_24 (hS.new_zed [1]) (hS.enter [1] (by decide)) (hr_11.mono (Mem.un_le le_13 ln_11)) et_12) ?_
     rintro _ w_22 ⟨v_18, N_25, rfl, hS', hr_12⟩
     intro a h
     obtain ⟨N_26, hS'', le_14, ln_12⟩ := hS.call [1] (by decide) rfl (l' := [_]) (ow := []) rfl hS'
     replace hS : Sep w0 w_22 [N_26, _, _, _] Z := hS''
     refine s_fieldAddr h rfl U32 rfl ti3 rfl rfl fun a h=>?_
     refine sto 3 h rfl rfl hS rfl ti3 rfl rfl rfl (oz rfl) fun w_23 hS' => ?_
     replace hS : Sep w0 w_23 [_, _, _, bx g_3 32 [_, _, _, _, _, _, _, iV t_10.1, _, _, _, _, _, _, _, _, _, _, _, _, _, _, _, _]] Z := hS'
     refine s_fieldAddr h rfl U32 rfl ti3 rfl rfl fun a h=>?_
     refine sto 3 h rfl rfl hS rfl ti3 rfl rfl rfl (oz rfl) fun w_24 hS' => ?_
     replace hS : Sep w0 w_24 [_, _, _, bx g_3 32 [_, _, _, _, _, _, _, _, iV t_11.1, _, _, _, _, _, _, _, _, _, _, _, _, _, _, _]] Z := hS'
     refine s_fieldAddr h rfl U32 rfl ti3 rfl rfl fun a h=>?_
     refine sto 3 h rfl rfl hS rfl ti3 rfl rfl rfl (oz rfl) fun w_25 hS' => ?_
     replace hS : Sep w0 w_25 [_, _, _, bx g_3 32 [_, _, _, _, _, iV t_12.1, _, _, _, _, _, _, _, _, _, _, _, _, _, _, _, _, _, _]] Z := hS'
     refine wpList_nil ?_
     replace h : Fr 87 a [(2, _), (3, _), (4, _), (5, _)] := h.keep [2, 3, 4, 5]
     refine x_block_n ?_
     have hS' := hS.room
     replace hS : Sep w0 w_25 [_, _, _, _, Mem.no] Z := hS'
     have hS' := hS.room
     replace hS : Sep w0 w_25 [_, _, _, _, _, Mem.no] Z := hS'
     have hS' := hS.room
     replace hS : Sep w0 w_25 [_, _, _, _, _, _, Mem.no] Z := hS'
     have hS' := hS.room
     replace hS : Sep w0 w_25 [_, _, _, _, _, _, _, Mem.no] Z := hS'
     have hS' := hS.room
     replace hS : Sep w0 w_25 [_, _, _, _, _, _, _, _, Mem.no] Z := hS'
     have hS' := hS.room
     replace hS : Sep w0 w_25 [_, _, _, _, _, _, _, _, _, Mem.no] Z := hS'
     exact x_then_n (hJ_j_1 (⟨t_12.2.1, t_12.2.2⟩ : pack_Reader) (⟨t_2.1, t_3.1, t_4.1, t_5.1, 0, t_12.1, false, t_10.1, t_11.1, 0, 0, ([] : List UInt8), 0, 0, ([] : List Int), ([] : List Int), 0, (⟨0, 0, (⟨0, 0, ([] : List UInt8), ([] : List UInt8), ([] : List UInt8)⟩ : api_Cmd)⟩ : api_Entry)⟩ : api_Msg) H _ _ ⟨v_18, nS, nS, nS, nS, nS, nS, N_26, Mem.no, Mem.no, Mem.no, Mem.no, Mem.no, Mem.no, (h.keep [2, 3, 4, 5]), (hS.sel [0, 1, 2, 3, 4, 5, 6, 7, 8, 9] (by decide)), (le_8.trans (le_12.trans (le_13.trans le_14))), (hr_12.mono (Mem.un_le le_14 ln_12)), (Own.nil Kd.u8 5 Mem.no), (Own.nil (Kd.int .i64) 3 Mem.no), (Own.nil (Kd.int .i64) 3 Mem.no), (Own.nil Kd.u8 5 Mem.no), (Own.nil Kd.u8 5 Mem.no), (Own.nil Kd.u8 5 Mem.no)⟩)
    ·refine c_cond_f h rfl (bf hc_3) <| qr <| s_cmp (b := (t_2.1 == 4)) h rfl rfl rfl (.inl ⟨rfl, rfl⟩) fun a h=>sg h rfl fun a h=>wpList_nil ?_
     replace h : Fr 87 a [(2, _), (3, _), (4, _), (5, _), (18, _), (46, .bool (t_2.1 == 4))] := h.keep [2, 3, 4, 5, 18, 46]
     refine x_then_n ?_
     obtain ⟨hc_4, H⟩ | ⟨hc_4, H⟩ := ii H
     ·refine c_cond_t h rfl (bt hc_4) <| wp_region_lit <| mv h rfl fun a h=>?_
      obtain ⟨t_13, et_13, H⟩ := bs H
      refine s_call h rfl Try.call70 rfl (pack_Reader_Num.calls K _ t_5.2.1 _ t_5.2.2 1099511627776 t_13 w0 _ _ N_14 (hS.new_zed [1]) (hS.enter [1] (by decide)) ((hr_5.mono (Mem.un_le le_5 ln_5)).mono le_8) et_13) ?_
      rintro _ w_26 ⟨v_19, N_27, rfl, hS', hr_13⟩
      intro a h
      obtain ⟨N_28, hS'', le_15, ln_13⟩ := hS.call [1] (by decide) rfl (l' := [_]) (ow := []) rfl hS'
      replace hS : Sep w0 w_26 [N_28, _, _, _] Z := hS''
      refine s_fieldAddr h rfl U32 rfl ti3 rfl rfl fun a h=>?_
      refine sto 3 h rfl rfl hS rfl ti3 rfl rfl rfl (oz rfl) fun w_27 hS' => ?_
      replace hS : Sep w0 w_27 [_, _, _, bx g_3 32 [_, _, _, _, _, _, _, _, _, iV t_13.1, _, _, _, _, _, _, _, _, _, _, _, _, _, _]] Z := hS'
      refine wpList_nil <| x_block_n ?_
      have hS' := hS.room
      replace hS : Sep w0 w_27 [_, _, _, _, Mem.no] Z := hS'
      have hS' := hS.room
      replace hS : Sep w0 w_27 [_, _, _, _, _, Mem.no] Z := hS'
      have hS' := hS.room
      replace hS : Sep w0 w_27 [_, _, _, _, _, _, Mem.no] Z := hS'
      have hS' := hS.room
      replace hS : Sep w0 w_27 [_, _, _, _, _, _, _, Mem.no] Z := hS'
      have hS' := hS.room
      replace hS : Sep w0 w_27 [_, _, _, _, _, _, _, _, Mem.no] Z := hS'
      have hS' := hS.room
      replace hS : Sep w0 w_27 [_, _, _, _, _, _, _, _, _, Mem.no] Z := hS'
      exact x_then_n (hJ_j_1 (⟨t_13.2.1, t_13.2.2⟩ : pack_Reader) (⟨t_2.1, t_3.1, t_4.1, t_5.1, 0, 0, false, 0, 0, t_13.1, 0, ([] : List UInt8), 0, 0, ([] : List Int), ([] : List Int), 0, (⟨0, 0, (⟨0, 0, ([] : List UInt8), ([] : List UInt8), ([] : List UInt8)⟩ : api_Cmd)⟩ : api_Entry)⟩ : api_Msg) H _ _ ⟨v_19, nS, nS, nS, nS, nS, nS, N_28, Mem.no, Mem.no, Mem.no, Mem.no, Mem.no, Mem.no, (h.keep [2, 3, 4, 5]), (hS.sel [0, 1, 2, 3, 4, 5, 6, 7, 8, 9] (by decide)), (le_8.trans le_15), (hr_13.mono (Mem.un_le le_15 ln_13)), (Own.nil Kd.u8 5 Mem.no), (Own.nil (Kd.int .i64) 3 Mem.no), (Own.nil (Kd.int .i64) 3 Mem.no), (Own.nil Kd.u8 5 Mem.no), (Own.nil Kd.u8 5 Mem.no), (Own.nil Kd.u8 5 Mem.no)⟩)
     ·refine c_cond_f h rfl (bf hc_4) <| qr <| s_cmp (b := (t_2.1 == 5)) h rfl rfl rfl (.inl ⟨rfl, rfl⟩) fun a h=>sg h rfl fun a h=>wpList_nil <| x_then_n ?_
      obtain ⟨hc_5, H⟩ | ⟨hc_5, H⟩ := ii H
      ·refine c_cond_t h rfl (bt hc_5) <| wp_region_lit <| mv h rfl fun a h=>?_
       obtain ⟨t_14, et_14, H⟩ := bs H
       refine s_call h rfl Try.call70 rfl (pack_Reader_Num.calls K _ t_5.2.1 _ t_5.2.2 1099511627776 t_14 w0 _ _ N_14 (hS.new_zed [1]) (hS.enter [1] (by decide)) ((hr_5.mono (Mem.un_le le_5 ln_5)).mono le_8) et_14) ?_
       rintro _ w_28 ⟨v_20, N_29, rfl, hS', hr_14⟩
       intro a h
       obtain ⟨N_30, hS'', le_16, ln_14⟩ := hS.call [1] (by decide) rfl (l' := [_]) (ow := []) rfl hS'
       replace hS : Sep w0 w_28 [N_30, _, _, _] Z := hS''
       refine mv h rfl fun a h=>?_
       obtain ⟨t_15, et_15, H⟩ := bs H
       refine s_call h rfl Try.call70 rfl (pack_Reader_Num.calls K _ t_14.2.1 _ t_14.2.2 1099511627776 t_15 w0 _ _ N_30 (hS.new_zed [1]) (hS.enter [1] (by decide)) (hr_14.mono (Mem.un_le le_16 ln_14)) et_15) ?_
       rintro _ w_29 ⟨v_21, N_31, rfl, hS', hr_15⟩
       intro a h
       obtain ⟨N_32, hS'', le_17, ln_15⟩ := hS.call [1] (by decide) rfl (l' := [_]) (ow := []) rfl hS'
       replace hS : Sep w0 w_29 [N_32, _, _, _] Z := hS''
       refine mv h rfl fun a h=>?_
       obtain ⟨t_16, et_16, H⟩ := bs H
       refine s_call h rfl Try.call71 rfl (pack_Reader_Bytes.calls K _ t_15.2.1 _ t_15.2.2 64 t_16 w0 _ _ N_32 (hS.new_zed [1]) (hS.enter [1] (by decide)) (hr_15.mono (Mem.un_le le_17 ln_15)) et_16) ?_
       rintro v_22 w_30 ⟨_, v_23, N_33, M_7, rfl, hS', hr_16, hr_17⟩
       intro a h
       obtain ⟨N_34, hS'', le_18, ln_16⟩ := hS.call [1] (by decide) rfl (l' := [_]) (ow := [_]) rfl hS'
       replace hS : Sep w0 w_30 [N_34, _, _, _, _] Z := hS''
       refine s_fieldAddr h rfl U32 rfl ti3 rfl rfl fun a h=>?_
       refine sto 3 h rfl rfl hS rfl ti3 rfl rfl rfl (oz rfl) fun w_31 hS' => ?_
       replace hS : Sep w0 w_31 [_, _, _, bx g_3 32 [_, _, _, _, _, _, _, _, _, iV t_14.1, _, _, _, _, _, _, _, _, _, _, _, _, _, _], _] Z := hS'
       refine s_fieldAddr h rfl U32 rfl ti3 rfl rfl fun a h=>?_
       refine sto 3 h rfl rfl hS rfl ti3 rfl rfl rfl (oz rfl) fun w_32 hS' => ?_
       replace hS : Sep w0 w_32 [_, _, _, bx g_3 32 [_, _, _, _, _, _, _, _, _, _, iV t_15.1, _, _, _, _, _, _, _, _, _, _, _, _, _], _] Z := hS'
       refine s_fieldAddr h rfl U32 rfl ti26 rfl rfl fun a h=>?_
       refine sto 3 h rfl rfl hS rfl ti26 hr_16.cellsA rfl rfl (oc hr_16.one on0) fun w_33 hS' => ?_
       replace hS : Sep w0 w_33 [_, _, _, bx g_3 32 [_, _, _, _, _, _, _, _, _, _, _, v_22, _, _, _, _, _, _, _, _, _, _, _, _], _] Z := hS'
       refine wpList_nil <| x_block_n ?_
       have hS' := hS.room
       replace hS : Sep w0 w_33 [_, _, _, _, _, Mem.no] Z := hS'
       have hS' := hS.room
       replace hS : Sep w0 w_33 [_, _, _, _, _, _, Mem.no] Z := hS'
       have hS' := hS.room
       replace hS : Sep w0 w_33 [_, _, _, _, _, _, _, Mem.no] Z := hS'
       have hS' := hS.room
       replace hS : Sep w0 w_33 [_, _, _, _, _, _, _, _, Mem.no] Z := hS'
       have hS' := hS.room
       replace hS : Sep w0 w_33 [_, _, _, _, _, _, _, _, _, Mem.no] Z := hS'
       exact x_then_n (hJ_j_1 (⟨t_16.2.1, t_16.2.2⟩ : pack_Reader) (⟨t_2.1, t_3.1, t_4.1, t_5.1, 0, 0, false, 0, 0, t_14.1, t_15.1, t_16.1, 0, 0, ([] : List Int), ([] : List Int), 0, (⟨0, 0, (⟨0, 0, ([] : List UInt8), ([] : List UInt8), ([] : List UInt8)⟩ : api_Cmd)⟩ : api_Entry)⟩ : api_Msg) H _ _ ⟨v_23, v_22, nS, nS, nS, nS, nS, N_34, M_7, Mem.no, Mem.no, Mem.no, Mem.no, Mem.no, (h.keep [2, 3, 4, 5]), (hS.sel [0, 1, 2, 3, 4, 5, 6, 7, 8, 9] (by decide)), (le_8.trans (le_16.trans (le_17.trans le_18))), (hr_17.mono (Mem.un_le le_18 ln_16)), hr_16, (Own.nil (Kd.int .i64) 3 Mem.no), (Own.nil (Kd.int .i64) 3 Mem.no), (Own.nil Kd.u8 5 Mem.no), (Own.nil Kd.u8 5 Mem.no), (Own.nil Kd.u8 5 Mem.no)⟩)
      ·refine c_cond_f h rfl (bf hc_5) <| qr <| s_cmp (b := (t_2.1 == 7)) h rfl rfl rfl (.inl ⟨rfl, rfl⟩) fun a h=>sg h rfl fun a h=>wpList_nil <| x_then_n ?_
       obtain ⟨hc_6, H⟩ | ⟨hc_6, H⟩ := ii H
       ·refine c_cond_t h rfl (bt hc_6) <| qr <| mv h rfl fun a h=>?_
        obtain ⟨t_17, et_17, H⟩ := bs H
        refine s_call h rfl Try.call70 rfl (pack_Reader_Num.calls K _ t_5.2.1 _ t_5.2.2 1099511627776 t_17 w0 _ _ N_14 (hS.new_zed [1]) (hS.enter [1] (by decide)) ((hr_5.mono (Mem.un_le le_5 ln_5)).mono le_8) et_17) ?_
        rintro _ w_34 ⟨v_24, N_35, rfl, hS', hr_18⟩
        intro a h
        obtain ⟨N_36, hS'', le_19, ln_17⟩ := hS.call [1] (by decide) rfl (l' := [_]) (ow := []) rfl hS'
        replace hS : Sep w0 w_34 [N_36, _, _, _] Z := hS''
        refine mv h rfl fun a h=>?_
        obtain ⟨t_18, et_18, H⟩ := bs H
        refine s_call h rfl Try.call70 rfl (pack_Reader_Num.calls K _ t_17.2.1 _ t_17.2.2 1099511627776 t_18 w0 _ _ N_36 (hS.new_zed [1]) (hS.enter [1] (by decide)) (hr_18.mono (Mem.un_le le_19 ln_17)) et_18) ?_
        rintro _ w_35 ⟨v_25, N_37, rfl, hS', hr_19⟩
        intro a h
        obtain ⟨N_38, hS'', le_20, ln_18⟩ := hS.call [1] (by decide) rfl (l' := [_]) (ow := []) rfl hS'
        replace hS : Sep w0 w_35 [N_38, _, _, _] Z := hS''
        refine s_fieldAddr h rfl U32 rfl ti3 rfl rfl fun a h=>?_
        refine sto 3 h rfl rfl hS rfl ti3 rfl rfl rfl (oz rfl) fun w_36 hS' => ?_
        replace hS : Sep w0 w_36 [_, _, _, bx g_3 32 [_, _, _, _, _, _, _, _, _, _, _, _, iV t_17.1, _, _, _, _, _, _, _, _, _, _, _]] Z := hS'
        refine s_fieldAddr h rfl U32 rfl ti3 rfl rfl fun a h=>?_
        refine sto 3 h rfl rfl hS rfl ti3 rfl rfl rfl (oz rfl) fun w_37 hS' => ?_
        replace hS : Sep w0 w_37 [_, _, _, bx g_3 32 [_, _, _, _, _, _, _, _, _, _, _, _, _, iV t_18.1, _, _, _, _, _, _, _, _, _, _]] Z := hS'
        refine nx <| wp_region_lit <| mv h rfl fun a h=>?_
        obtain ⟨t_19, et_19, H⟩ := bs H
        refine s_call h rfl Try.call72 rfl (mesg_numbers.calls K _ t_18.2.1 _ t_18.2.2 7 t_19 w0 _ _ N_38 (hS.new_zed [1]) (hS.enter [1] (by decide)) (hr_19.mono (Mem.un_le le_20 ln_18)) et_19) ?_
        rintro v_26 w_38 ⟨_, v_27, N_39, M_8, rfl, hS', hr_20, hr_21⟩
        intro a h
        obtain ⟨N_40, hS'', le_21, ln_19⟩ := hS.call [1] (by decide) rfl (l' := [_]) (ow := [_]) rfl hS'
        replace hS : Sep w0 w_38 [N_40, _, _, _, _] Z := hS''
        refine mv h rfl fun a h=>?_
        obtain ⟨t_20, et_20, H⟩ := bs H
        refine s_call h rfl Try.call72 rfl (mesg_numbers.calls K _ t_19.2.1 _ t_19.2.2 8 t_20 w0 _ _ N_40 (hS.new_zed [1]) (hS.enter [1] (by decide)) (hr_21.mono (Mem.un_le le_21 ln_19)) et_20) ?_
        rintro v_28 w_39 ⟨_, v_29, N_41, M_9, rfl, hS', hr_22, hr_23⟩
        intro a h
        obtain ⟨N_42, hS'', le_22, ln_20⟩ := hS.call [1] (by decide) rfl (l' := [_]) (ow := [_]) rfl hS'
        replace hS : Sep w0 w_39 [N_42, _, _, _, _, _] Z := hS''
        refine s_fieldAddr h rfl U32 rfl ti22 rfl rfl fun a h=>?_
        refine sto 3 h rfl rfl hS rfl ti22 hr_20.cellsA rfl rfl (oc hr_20.one on0) fun w_40 hS' => ?_
        replace hS : Sep w0 w_40 [_, _, _, bx g_3 32 [_, _, _, _, _, _, _, _, _, _, _, _, _, _, v_26, _, _, _, _, _, _, _, _, _], _, _] Z := hS'
        refine s_fieldAddr h rfl U32 rfl ti22 rfl rfl fun a h=>?_
        refine sto 3 h rfl rfl hS rfl ti22 hr_22.cellsA rfl rfl (oc hr_22.one on0) fun w_41 hS' => ?_
        replace hS : Sep w0 w_41 [_, _, _, bx g_3 32 [_, _, _, _, _, _, _, _, _, _, _, _, _, _, _, v_28, _, _, _, _, _, _, _, _], _, _] Z := hS'
        refine wpList_nil ?_
        replace h : Fr 87 a [(2, _), (3, _), (4, _), (5, _)] := h.keep [2, 3, 4, 5]
        refine x_block_n ?_
        have hS' := hS.room
        replace hS : Sep w0 w_41 [_, _, _, _, _, _, Mem.no] Z := hS'
        have hS' := hS.room
        replace hS : Sep w0 w_41 [_, _, _, _, _, _, _, Mem.no] Z := hS'
        have hS' := hS.room
        replace hS : Sep w0 w_41 [_, _, _, _, _, _, _, _, Mem.no] Z := hS'
        have hS' := hS.room
        replace hS : Sep w0 w_41 [_, _, _, _, _, _, _, _, _, Mem.no] Z := hS'
        exact x_then_n (hJ_j_1 (⟨t_20.2.1, t_20.2.2⟩ : pack_Reader) (⟨t_2.1, t_3.1, t_4.1, t_5.1, 0, 0, false, 0, 0, 0, 0, ([] : List UInt8), t_17.1, t_18.1, t_19.1, t_20.1, 0, (⟨0, 0, (⟨0, 0, ([] : List UInt8), ([] : List UInt8), ([] : List UInt8)⟩ : api_Cmd)⟩ : api_Entry)⟩ : api_Msg) H _ _ ⟨v_29, nS, v_26, v_28, nS, nS, nS, N_42, Mem.no, M_8, M_9, Mem.no, Mem.no, Mem.no, (h.keep [2, 3, 4, 5]), (hS.sel [0, 1, 2, 3, 6, 4, 5, 7, 8, 9] (by decide)), (le_8.trans (le_19.trans (le_20.trans (le_21.trans le_22)))), (hr_23.mono (Mem.un_le le_22 ln_20)), (Own.nil Kd.u8 5 Mem.no), hr_20, hr_22, (Own.nil Kd.u8 5 Mem.no), (Own.nil Kd.u8 5 Mem.no), (Own.nil Kd.u8 5 Mem.no)⟩)
       ·refine c_cond_f h rfl (bf hc_6) <| qr <| s_cmp (b := (t_2.1 == 8)) h rfl rfl rfl (.inl ⟨rfl, rfl⟩) fun a h=>sg h rfl fun a h=>wpList_nil <| x_then_n ?_
        obtain ⟨hc_7, H⟩ | ⟨hc_7, H⟩ := ii H
        ·refine c_cond_t h rfl (bt hc_7) <| wp_region_lit <| mv h rfl fun a h=>?_
         obtain ⟨t_21, et_21, H⟩ := bs H
         refine s_call h rfl Try.call70 rfl (pack_Reader_Num.calls K _ t_5.2.1 _ t_5.2.2 1099511627776 t_21 w0 _ _ N_14 (hS.new_zed [1]) (hS.enter [1] (by decide)) ((hr_5.mono (Mem.un_le le_5 ln_5)).mono le_8) et_21) ?_
         rintro _ w_42 ⟨v_30, N_43, rfl, hS', hr_24⟩
         intro a h
         obtain ⟨N_44, hS'', le_23, ln_21⟩ := hS.call [1] (by decide) rfl (l' := [_]) (ow := []) rfl hS'
         replace hS : Sep w0 w_42 [N_44, _, _, _] Z := hS''
         refine mv h rfl fun a h=>?_
         obtain ⟨t_22, et_22, H⟩ := bs H
         refine s_call h rfl Try.call73 rfl (mach_GetEntry.calls K _ t_21.2.1 _ t_21.2.2 t_22 w0 _ _ N_44 (hS.new_zed [1]) (hS.enter [1] (by decide)) (hr_24.mono (Mem.un_le le_23 ln_21)) et_22) ?_
         rintro _ w_43 ⟨v_31, v_32, v_33, v_34, N_45, M_10, M_11, M_12, rfl, hS', hr_25, hr_26, hr_27, hr_28⟩
         intro a h
         obtain ⟨N_46, hS'', le_24, ln_22⟩ := hS.call [1] (by decide) rfl (l' := [_]) (ow := [_, _, _]) rfl hS'
         replace hS : Sep w0 w_43 [N_46, _, _, _, _, _, _] Z := hS''
         refine s_fieldAddr h rfl U32 rfl ti3 rfl rfl fun a h=>?_
         refine sto 3 h rfl rfl hS rfl ti3 rfl rfl rfl (oz rfl) fun w_44 hS' => ?_
         replace hS : Sep w0 w_44 [_, _, _, bx g_3 32 [_, _, _, _, _, _, _, _, _, _, _, _, _, _, _, _, iV t_21.1, _, _, _, _, _, _, _], _, _, _] Z := hS'
         refine s_fieldAddr h rfl U32 rfl ti30 rfl rfl fun a h=>?_
         refine sto 3 h rfl rfl hS rfl ti30 rfl rfl rfl (oa 4 rfl (oc hr_25.one (oc hr_26.one (oc hr_27.one on0)))) fun w_45 hS' => ?_
         replace hS : Sep w0 w_45 [_, _, _, bx g_3 32 [_, _, _, _, _, _, _, _, _, _, _, _, _, _, _, _, _, iV t_22.1.Sess, iV t_22.1.Seq, iV t_22.1.Cmd.Kind, iV t_22.1.Cmd.Who, v_31, v_32, v_33], _, _, _] Z := hS'
         refine wpList_nil ?_
         replace h : Fr 87 a [(2, _), (3, _), (4, _), (5, _)] := h.keep [2, 3, 4, 5]
         refine x_block_n ?_
         have hS' := hS.room
         replace hS : Sep w0 w_45 [_, _, _, _, _, _, _, Mem.no] Z := hS'
         have hS' := hS.room
         replace hS : Sep w0 w_45 [_, _, _, _, _, _, _, _, Mem.no] Z := hS'
         have hS' := hS.room
         replace hS : Sep w0 w_45 [_, _, _, _, _, _, _, _, _, Mem.no] Z := hS'
         exact x_then_n (hJ_j_1 (⟨t_22.2.1, t_22.2.2⟩ : pack_Reader) (⟨t_2.1, t_3.1, t_4.1, t_5.1, 0, 0, false, 0, 0, 0, 0, ([] : List UInt8), 0, 0, ([] : List Int), ([] : List Int), t_21.1, t_22.1⟩ : api_Msg) H _ _ ⟨v_34, nS, nS, nS, v_31, v_32, v_33, N_46, Mem.no, Mem.no, Mem.no, M_10, M_11, M_12, (h.keep [2, 3, 4, 5]), (hS.sel [0, 1, 2, 3, 7, 8, 9, 4, 5, 6] (by decide)), (le_8.trans (le_23.trans le_24)), (hr_28.mono (Mem.un_le le_24 ln_22)), (Own.nil Kd.u8 5 Mem.no), (Own.nil (Kd.int .i64) 3 Mem.no), (Own.nil (Kd.int .i64) 3 Mem.no), hr_25, hr_26, hr_27⟩)
        ·refine c_cond_f h rfl (bf hc_7) <| qr <| s_build h rfl ti32 pl32 rfl .nil (cs := Q0) (by kernel_rfl) fun a h=>?_
         refine sto 1 h rfl rfl hS rfl ti32 rfl rfl rfl (oz rfl) fun w_46 hS' => ?_
         replace hS : Sep w0 w_46 [_, _, _, _] Z := hS'
         refine sg h rfl fun a h=>wpList_nil ?_
         replace h : Fr 87 a [(2, _), (3, _), (4, _), (5, _)] := h.keep [2, 3, 4, 5]
         refine x_then_n <| wp_ret (x_block_r (x_then_r ?_))
         have hS' := hS.room
         replace hS : Sep w0 w_46 [_, _, _, _, Mem.no] Z := hS'
         have hS' := hS.room
         replace hS : Sep w0 w_46 [_, _, _, _, _, Mem.no] Z := hS'
         have hS' := hS.room
         replace hS : Sep w0 w_46 [_, _, _, _, _, _, Mem.no] Z := hS'
         have hS' := hS.room
         replace hS : Sep w0 w_46 [_, _, _, _, _, _, _, Mem.no] Z := hS'
         have hS' := hS.room
         replace hS : Sep w0 w_46 [_, _, _, _, _, _, _, _, Mem.no] Z := hS'
         have hS' := hS.room
         replace hS : Sep w0 w_46 [_, _, _, _, _, _, _, _, _, Mem.no] Z := hS'
         obtain rfl := Option.some.inj H
         exact f_ret h (rs := [.cell 2 32, .tmp 3]) rfl (.cell rfl (hS.load_agg (p := 1) (us := Q0) rfl U32 rfl ti32 rfl rfl) (.tmp rfl .nil)) ⟨_, rfl, nS, nS, nS, nS, nS, nS, N_14, Mem.no, Mem.no, Mem.no, Mem.no, Mem.no, Mem.no, rfl, (hS.sel [0, 4, 5, 6, 7, 8, 9] (by decide)), (Own.nil Kd.u8 5 Mem.no), (Own.nil (Kd.int .i64) 3 Mem.no), (Own.nil (Kd.int .i64) 3 Mem.no), (Own.nil Kd.u8 5 Mem.no), (Own.nil Kd.u8 5 Mem.no), (Own.nil Kd.u8 5 Mem.no)⟩
 clear hKJ_3
 obtain ⟨hc_8, H⟩ | ⟨hc_8, H⟩ := ii H
 ·refine c_cond_t h rfl (bt hc_8) <| wp_skip ?_
  exact x_then_n (hJ_j_2 (t_2.1 == 1) H _ _ ⟨N_10, (h.keep [2, 3, 4, 5, 18, 20]), (hS.sel [0, 1, 2, 3] (by decide)), mr⟩)
 ·refine c_cond_f h rfl (bf hc_8) <| wp_region_lit <| s_cmp (b := (t_2.1 == 6)) h rfl rfl rfl (.inl ⟨rfl, rfl⟩) fun a h=>sg h rfl fun a h=>wpList_nil ?_
  exact x_then_n (hJ_j_2 (t_2.1 == 6) H _ _ ⟨N_10, (h.keep [2, 3, 4, 5, 18, 20]), (hS.sel [0, 1, 2, 3] (by decide)), mr⟩)

set_option maxHeartbeats 4000000 in
set_option maxRecDepth 20000 in
theorem bytes_Equal.calls (x0 : List UInt8) (p0_0 : Value) (x1 : List UInt8) (p1_1 : Value) (r : Bool) (w0 w : World) (Z A : Mem) (hA : A.le Z) (hS : Sep w0 w [] Z) (hp0_0 : Rd Kd.u8 A p0_0 x0) (hp1_1 : Rd Kd.u8 A p1_1 x1)
    (H : bytes_Equal.f x0 x1 = some r) :
    Calls Try.prog 81 [p0_0, p1_1].toArray w (Ret fun v w' => ∃ (N : Mem), v = .bool r ∧ Sep w0 w' [N] Z) := by
 unfold bytes_Equal.f at H
 refine f_enter _ Try.func81 rfl Try.ntmps81 rfl fun a h=>?_
 replace h : Fr 10 a [(0, p0_0), (1, p1_1)] := h
 replace hS := hS.start
 refine qr <| sg h rfl fun a h=>nx <| qr <| mv h rfl fun a h=>s_b2s h rfl U26 U5 U9 rfl hp0_0 (hA.trans hS.old) fun a h=>mv h rfl fun a h=>s_b2s h rfl U26 U5 U9 rfl hp1_1 (hA.trans hS.old) fun a h=>s_strEq (b := (x0 == x1)) h rfl rfl rfl (.inl ⟨rfl, rfl⟩) fun a h=>?_
 refine sg h rfl fun a h=>nx <| wp_ret ?_
 obtain rfl := Option.some.inj H
 exact r1 h 4 rfl rfl ⟨_, rfl, Mem.no, rfl, (hS.sel [0] (by decide))⟩

set_option maxHeartbeats 4000000 in
set_option maxRecDepth 20000 in
theorem slices_Equal_sint_int.calls (K : Nat) (x0 : List Int) (p0_0 : Value) (x1 : List Int) (p1_1 : Value) (r : Bool) (w0 w : World) (Z A : Mem) (hA : A.le Z) (hS : Sep w0 w [] Z) (hp0_0 : Rd (Kd.int .i64) A p0_0 x0) (hp1_1 : Rd (Kd.int .i64) A p1_1 x1)
    (H : slices_Equal_sint_int.f K x0 x1 = some r) :
    Calls Try.prog 82 [p0_0, p1_1].toArray w (Ret fun v w' => ∃ (N : Mem), v = .bool r ∧ Sep w0 w' [N] Z) := by
 unfold slices_Equal_sint_int.f at H
 refine f_enter _ Try.func82 rfl Try.ntmps82 rfl fun a h=>?_
 replace h : Fr 26 a [(0, p0_0), (1, p1_1)] := h
 replace hS := hS.start
 refine qr <| sg h rfl fun a h=>nx <| c_seq fun KJ_1 hKJ_1 => qr <| mv h rfl fun a h=>s_len h rfl U22 rfl hp0_0 fun a h=>mv h rfl fun a h=>s_len h rfl U22 rfl hp1_1 fun a h=>?_
 refine s_cmp (b := ((x0.length : Int) != (x1.length : Int))) h rfl rfl rfl (.inr (.inl ⟨rfl, rfl⟩)) fun a h=>wpList_nil <| x_then_n ?_
 obtain ⟨hc_1, H⟩ | ⟨hc_1, H⟩ := ii H
 ·refine c_cond_f h rfl (xf hc_1) <| wp_skip <| x_then_n (hKJ_1 _ _ ?_)
  refine c_seq fun KJ_2 hKJ_2 => qr <| mv h rfl fun a h=>s_len h rfl U22 rfl hp0_0 fun a h=>mv h rfl fun a h=>wpList_nil <| x_then_n ?_
  have hJ_j_1 : slices_Equal_sint_int.J1 K = some r → ∀ (a : Act) (w_1 : World), (∃ (N_1 : Mem), Fr 26 a [(4, .bool false)] ∧ Sep w0 w_1 [N_1] Z ∧ Mem.no.le N_1) → KJ_2 a w_1 := by
   clear H h hS a
   rintro H a w_1 ⟨N_1, h, hS, le_1⟩
   unfold slices_Equal_sint_int.J1 at H
   refine hKJ_2 _ _ <| qr <| sg h rfl fun a h=>wpList_nil ?_
   replace h : Fr 26 a [(4, .bool true)] := h.keep [4]
   refine x_then_n <| wp_ret ?_
   obtain rfl := Option.some.inj H
   exact r1 h 4 rfl rfl ⟨_, rfl, N_1, rfl, (hS.sel [0] (by decide))⟩
  clear hKJ_2
  refine c_block <| c_loop (fun k_1 a w_2 => ∃ (x_1 : Int) (N_2 : Mem), slices_Equal_sint_int.L1 K x0 x1 (fun v => slices_Equal_sint_int.J1 K) k_1 x_1 = some r ∧ Fr 26 a [(0, p0_0), (1, p1_1), (4, .bool false), (12, iV (x0.length : Int)), (13, iV x_1)] ∧ Sep w0 w_2 [N_2] Z ∧ Mem.no.le N_2) K ⟨0, Mem.no, H, (h.keep [0, 1, 4, 12, 13]), (hS.sel [0] (by decide)), mr⟩ (fun a w h => by obtain ⟨_, _, H, _⟩ := h; cases (show (none : Option (Bool)) = some r from H)) ?_
  clear h hS a H
  rintro k_1 a w_2 KL_1 hKL_1 ⟨x_1, N_2, H, h, hS, le_2⟩
  replace H : slices_Equal_sint_int.B1 K x0 x1 (fun v => slices_Equal_sint_int.J1 K) (slices_Equal_sint_int.L1 K x0 x1 (fun v => slices_Equal_sint_int.J1 K) k_1) x_1 = some r := H
  unfold slices_Equal_sint_int.B1 at H
  refine qr <| s_cmp (b := decide (x_1 < (x0.length : Int))) h rfl rfl rfl (.inr (.inr (.inl ⟨rfl, rfl⟩))) fun a h=>wpList_nil ?_
  replace h : Fr 26 a [(0, _), (1, _), (4, _), (12, _), (13, _), (14, .bool (decide (x_1 < (x0.length : Int))))] := h.keep [0, 1, 4, 12, 13, 14]
  refine x_then_n <| c_seq fun KJ_3 hKJ_3 => ?_
  obtain ⟨hc_2, H⟩ | ⟨hc_2, H⟩ := ii H
  ·refine c_cond_t h rfl (dt hc_2) <| wp_skip <| x_then_n (hKJ_3 _ _ ?_)
   refine c_seq fun KJ_4 hKJ_4 => c_block <| qr <| mv h rfl fun a h=>sg h rfl fun a h=>nx <| c_seq fun KJ_5 hKJ_5 => h_begin (S := fun w => Sep w0 w [N_2] Z) 9 (by kernel_rfl) rfl (bA 9 0) (by kernel_rfl) hS fun w_3 hS => ?_
   refine t_take 0 (bA 9 1) rfl rfl rfl rfl h (hS.sub .ii) (v := p0_0) (fun w hS => r_move h rfl) fun a h=>t_take 1 (bA 9 3) rfl rfl rfl rfl h (hS.sub .ii) (v := iV x_1) (fun w hS => r_move h rfl) fun a h=>?_
   obtain ⟨t_1, et_1, H⟩ := bs H
   refine t_takeE 2 (bA 9 7) rfl rfl rfl rfl h (hS.sub .ii) (f := fun ad => .pointer (some ad)) (r_index h U22 ti3 rfl rfl rfl hp0_0 et_1) ?_
   rintro ad_1 ⟨cs_1, hk_1, hc_3⟩
   obtain rfl := (show cs_1 = [iV t_1] from hk_1)
   intro a h
   refine t_take 3 (bA 9 15) rfl rfl rfl rfl h (hS.sub .ii) (v := iV t_1) (fun w hS => r_load h rfl (el_one (o := 0) (fun j c h => Mem.cell_le (hA.trans hS.old) (hc_3 j c h)) U3 rfl rfl)) fun a h=>t_take 4 (bA 9 31) rfl rfl rfl rfl h (hS.sub .ii) (v := p1_1) (fun w hS => r_move h rfl) fun a h=>t_take 5 (bA 9 63) rfl rfl rfl rfl h (hS.sub .ii) (v := iV x_1) (fun w hS => r_move h rfl) fun a h=>?_
   obtain ⟨t_2, et_2, H⟩ := bs H
   refine t_takeE 6 (bA 9 127) rfl rfl rfl rfl h (hS.sub .ii) (f := fun ad => .pointer (some ad)) (r_index h U22 ti3 rfl rfl rfl hp1_1 et_2) ?_
   rintro ad_2 ⟨cs_2, hk_2, hc_4⟩
   obtain rfl := (show cs_2 = [iV t_2] from hk_2)
   intro a h
   refine t_take 7 (bA 9 255) rfl rfl rfl rfl h (hS.sub .ii) (v := iV t_2) (fun w hS => r_load h rfl (el_one (o := 0) (fun j c h => Mem.cell_le (hA.trans hS.old) (hc_4 j c h)) U3 rfl rfl)) fun a h=>t_take 8 (bA 9 511) rfl rfl rfl rfl h (hS.sub .ii) (v := .bool (t_1 != t_2)) (fun w hS => r_cmp (b := (t_1 != t_2)) h rfl rfl (.inr (.inl ⟨rfl, rfl⟩))) fun a h=>h_done (by kernel_rfl) <| x_then_n (hKJ_5 _ _ ?_)
   obtain ⟨hc_5, H⟩ | ⟨hc_5, H⟩ := ii H
   ·refine c_cond_f h rfl (xf hc_5) <| wp_skip <| x_block_n <| x_then_n (hKJ_4 _ _ ?_)
    refine wp_region_lit <| s_arith (r := w64 (x_1 + 1)) h rfl rfl rfl (.inl ⟨rfl, rfl⟩) fun a h=>mv h rfl fun a h=>wpList_nil <| x_then_n (hKL_1 _ _ ?_)
    exact ⟨w64 (x_1 + 1), N_2, H, (h.keep [0, 1, 4, 12, 13]), (hS.sel [0] (by decide)), le_2⟩
   ·refine c_cond_t h rfl (xt hc_5) <| qr <| sg h rfl fun a h=>nx <| wp_ret (x_block_r (x_then_r (x_then_r (x_block_r (x_then_r ?_)))))
    obtain rfl := Option.some.inj H
    exact r1 h 4 rfl rfl ⟨_, rfl, N_2, rfl, (hS.sel [0] (by decide))⟩
  ·refine c_cond_f h rfl (df hc_2) <| wp_exit (x_then_x (x_then_x (x_block_t ?_)))
   exact x_then_n (hJ_j_1  H _ _ ⟨N_2, (h.keep [4]), (hS.sel [0] (by decide)), le_2⟩)
 ·refine c_cond_t h rfl (xt hc_1) <| qr <| sg h rfl fun a h=>nx <| wp_ret (x_then_r ?_)
  obtain rfl := Option.some.inj H
  exact r1 h 4 rfl rfl ⟨_, rfl, Mem.no, rfl, (hS.sel [0] (by decide))⟩

set_option maxHeartbeats 4000000 in
set_option maxRecDepth 20000 in
theorem mach_SameEntry.calls (x0 : api_Entry) (p0_0 : Value) (p0_1 : Value) (p0_2 : Value) (x1 : api_Entry) (p1_3 : Value) (p1_4 : Value) (p1_5 : Value) (r : Bool) (w0 w : World) (Z A : Mem) (hA : A.le Z) (hS : Sep w0 w [] Z) (hp0_0 : Rd Kd.u8 A p0_0 x0.Cmd.Key) (hp0_1 : Rd Kd.u8 A p0_1 x0.Cmd.Val) (hp0_2 : Rd Kd.u8 A p0_2 x0.Cmd.Old) (hp1_3 : Rd Kd.u8 A p1_3 x1.Cmd.Key) (hp1_4 : Rd Kd.u8 A p1_4 x1.Cmd.Val) (hp1_5 : Rd Kd.u8 A p1_5 x1.Cmd.Old)
    (H : mach_SameEntry.f x0 x1 = some r) :
    Calls Try.prog 83 [.agg (E30 x0 p0_0 p0_1 p0_2).toArray, .agg (E30 x1 p1_3 p1_4 p1_5).toArray].toArray w (Ret fun v w' => ∃ (N : Mem), v = .bool r ∧ Sep w0 w' [N] Z) := by
 unfold mach_SameEntry.f at H
 refine f_enter _ Try.func83 rfl Try.ntmps83 rfl fun a h=>?_
 replace h : Fr 58 a [(0, .agg (E30 x0 p0_0 p0_1 p0_2).toArray), (1, .agg (E30 x1 p1_3 p1_4 p1_5).toArray)] := h
 replace hS := hS.start
 refine qr <| v_box (vs := (E30 x0 p0_0 p0_1 p0_2)) h rfl rfl rfl hS fun w_1 g_1 hS' a h => ?_
 replace hS : Sep w0 w_1 [_, bx g_1 30 (E30 x0 p0_0 p0_1 p0_2)] Z := hS'
 refine v_box (vs := (E30 x1 p1_3 p1_4 p1_5)) h rfl rfl rfl hS fun w_2 g_2 hS' a h => ?_
 replace hS : Sep w0 w_2 [_, _, bx g_2 30 (E30 x1 p1_3 p1_4 p1_5)] Z := hS'
 refine sg h rfl fun a h=>nx <| c_seq fun KJ_1 hKJ_1 => h_begin (S := fun w => Sep w0 w [Mem.no, bx g_1 30 (E30 x0 p0_0 p0_1 p0_2), bx g_2 30 (E30 x1 p1_3 p1_4 p1_5)] Z) 8 (by kernel_rfl) rfl (bA 8 0) (by kernel_rfl) hS fun w_3 hS => ?_
 refine t_take 0 (bA 8 1) rfl rfl rfl rfl h (hS.sub .ii) (v := .pointer (some ⟨g_1, 2, none⟩)) (fun w hS => r_fieldAddr h U30 rfl ti28 rfl rfl rfl) fun a h=>t_take 1 (bA 8 3) rfl rfl rfl rfl h (hS.sub .ii) (v := .agg (E28 x0.Cmd p0_0 p0_1 p0_2).toArray) (fun w hS => r_load h rfl (hS.load_agg (p := 1) (us := (E28 x0.Cmd p0_0 p0_1 p0_2)) rfl U28 rfl ti28 rfl rfl)) fun a h=>t_take 2 (bA 8 7) rfl rfl rfl rfl h (hS.sub .ii) (v := .pointer (some ⟨g_2, 2, none⟩)) (fun w hS => r_fieldAddr h U30 rfl ti28 rfl rfl rfl) fun a h=>t_take 3 (bA 8 15) rfl rfl rfl rfl h (hS.sub .ii) (v := .agg (E28 x1.Cmd p1_3 p1_4 p1_5).toArray) (fun w hS => r_load h rfl (hS.load_agg (p := 2) (us := (E28 x1.Cmd p1_3 p1_4 p1_5)) rfl U28 rfl ti28 rfl rfl)) fun a h=>h_state fun GD_1 hGD_1 => ?_
 have hD_7_255 : ∀ (a : Act) (w_4 : World), (∃ (g_3 : Nat) (g_4 : Nat) (N_1 : Mem), Fr 58 a [(2, .pointer (some ⟨g_1, 0, none⟩)), (3, .pointer (some ⟨g_2, 0, none⟩)), (4, .bool false), (5, .pointer (some ⟨g_3, 0, none⟩)), (6, .pointer (some ⟨g_4, 0, none⟩))] ∧ Sep w0 w_4 [N_1, bx g_1 30 (E30 x0 p0_0 p0_1 p0_2), bx g_2 30 (E30 x1 p1_3 p1_4 p1_5), bx g_3 28 (E28 x0.Cmd p0_0 p0_1 p0_2), bx g_4 28 (E28 x1.Cmd p1_3 p1_4 p1_5)] Z ∧ Mem.no.le N_1) → GD_1 0 (bA 8 255) a w_4 := by
  rintro a w_4 ⟨g_3, g_4, N_1, h, hS, le_1⟩
  refine (hGD_1 _ _ _ _).2 <| h_done (by kernel_rfl) <| x_then_n (hKJ_1 _ _ ?_)
  refine c_seq fun KJ_2 hKJ_2 => wp_region_lit <| s_fieldAddr h rfl U30 rfl ti3 rfl rfl fun a h=>s_load h rfl rfl (hS.load_one (p := 1) rfl U3 rfl rfl) fun a h=>s_fieldAddr h rfl U30 rfl ti3 rfl rfl fun a h=>s_load h rfl rfl (hS.load_one (p := 2) rfl U3 rfl rfl) fun a h=>s_cmp (b := (x0.Sess == x1.Sess)) h rfl rfl rfl (.inl ⟨rfl, rfl⟩) fun a h=>mv h rfl fun a h=>?_
  obtain ⟨hc_1, H⟩ | ⟨hc_1, H⟩ := ii H
  ·refine s_on h rfl rfl (bt hc_1) <| s_fieldAddr h rfl U30 rfl ti3 rfl rfl fun a h=>s_on h rfl rfl (bt hc_1) <| s_load h rfl rfl (hS.load_one (p := 1) rfl U3 rfl rfl) fun a h=>s_on h rfl rfl (bt hc_1) <| s_fieldAddr h rfl U30 rfl ti3 rfl rfl fun a h=>s_on h rfl rfl (bt hc_1) <| s_load h rfl rfl (hS.load_one (p := 2) rfl U3 rfl rfl) fun a h=>s_on h rfl rfl (bt hc_1) <| s_cmp (b := (x0.Seq == x1.Seq)) h rfl rfl rfl (.inl ⟨rfl, rfl⟩) fun a h=>pt h rfl (bt hc_1) fun a h=>mv h rfl fun a h=>?_
   obtain ⟨hc_2, H⟩ | ⟨hc_2, H⟩ := ii H
   ·refine s_on h rfl rfl (bt hc_2) <| s_fieldAddr h rfl U28 rfl ti3 rfl rfl fun a h=>s_on h rfl rfl (bt hc_2) <| s_load h rfl rfl (hS.load_one (p := 3) rfl U3 rfl rfl) fun a h=>s_on h rfl rfl (bt hc_2) <| s_fieldAddr h rfl U28 rfl ti3 rfl rfl fun a h=>s_on h rfl rfl (bt hc_2) <| s_load h rfl rfl (hS.load_one (p := 4) rfl U3 rfl rfl) fun a h=>s_on h rfl rfl (bt hc_2) <| s_cmp (b := (x0.Cmd.Kind == x1.Cmd.Kind)) h rfl rfl rfl (.inl ⟨rfl, rfl⟩) fun a h=>pt h rfl (bt hc_2) fun a h=>mv h rfl fun a h=>?_
    obtain ⟨hc_3, H⟩ | ⟨hc_3, H⟩ := ii H
    ·refine s_on h rfl rfl (bt hc_3) <| s_fieldAddr h rfl U28 rfl ti3 rfl rfl fun a h=>s_on h rfl rfl (bt hc_3) <| s_load h rfl rfl (hS.load_one (p := 3) rfl U3 rfl rfl) fun a h=>s_on h rfl rfl (bt hc_3) <| s_fieldAddr h rfl U28 rfl ti3 rfl rfl fun a h=>s_on h rfl rfl (bt hc_3) <| s_load h rfl rfl (hS.load_one (p := 4) rfl U3 rfl rfl) fun a h=>s_on h rfl rfl (bt hc_3) <| s_cmp (b := (x0.Cmd.Who == x1.Cmd.Who)) h rfl rfl rfl (.inl ⟨rfl, rfl⟩) fun a h=>pt h rfl (bt hc_3) fun a h=>mv h rfl fun a h=>?_
     obtain ⟨hc_4, H⟩ | ⟨hc_4, H⟩ := ii H
     ·refine s_on h rfl rfl (bt hc_4) <| s_fieldAddr h rfl U28 rfl ti26 rfl rfl fun a h=>s_on h rfl rfl (bt hc_4) <| s_load h rfl rfl (hS.load_one (p := 3) rfl U26 rfl rfl) fun a h=>s_on h rfl rfl (bt hc_4) <| s_fieldAddr h rfl U28 rfl ti26 rfl rfl fun a h=>s_on h rfl rfl (bt hc_4) <| s_load h rfl rfl (hS.load_one (p := 4) rfl U26 rfl rfl) fun a h=>s_on h rfl rfl (bt hc_4) ?_
      obtain ⟨t_1, et_1, H⟩ := bs H
      refine s_call h rfl Try.call81 rfl (bytes_Equal.calls x0.Cmd.Key _ x1.Cmd.Key _ t_1 w0 _ _ _ mr (hS.enter [] (by decide)) (hp0_0.mono (hA.trans (hS.le_zed []))) (hp1_3.mono (hA.trans (hS.le_zed []))) et_1) ?_
      rintro _ w_5 ⟨N_2, rfl, hS'⟩
      intro a h
      obtain ⟨N_3, hS'', le_2, ln_1⟩ := hS.call [] (by decide) rfl (l' := []) (ow := []) rfl hS'
      replace hS : Sep w0 w_5 [N_3, _, _, _, _] Z := hS''
      refine pt h rfl (bt hc_4) fun a h=>mv h rfl fun a h=>?_
      obtain ⟨hc_5, H⟩ | ⟨hc_5, H⟩ := ii H
      ·refine s_on h rfl rfl hc_5 <| s_fieldAddr h rfl U28 rfl ti26 rfl rfl fun a h=>s_on h rfl rfl hc_5 <| s_load h rfl rfl (hS.load_one (p := 3) rfl U26 rfl rfl) fun a h=>s_on h rfl rfl hc_5 <| s_fieldAddr h rfl U28 rfl ti26 rfl rfl fun a h=>s_on h rfl rfl hc_5 <| s_load h rfl rfl (hS.load_one (p := 4) rfl U26 rfl rfl) fun a h=>s_on h rfl rfl hc_5 ?_
       obtain ⟨t_2, et_2, H⟩ := bs H
       refine s_call h rfl Try.call81 rfl (bytes_Equal.calls x0.Cmd.Val _ x1.Cmd.Val _ t_2 w0 _ _ _ mr (hS.enter [] (by decide)) (hp0_1.mono (hA.trans (hS.le_zed []))) (hp1_4.mono (hA.trans (hS.le_zed []))) et_2) ?_
       rintro _ w_6 ⟨N_4, rfl, hS'⟩
       intro a h
       obtain ⟨N_5, hS'', le_3, ln_2⟩ := hS.call [] (by decide) rfl (l' := []) (ow := []) rfl hS'
       replace hS : Sep w0 w_6 [N_5, _, _, _, _] Z := hS''
       refine pt h rfl hc_5 fun a h=>mv h rfl fun a h=>?_
       obtain ⟨hc_6, H⟩ | ⟨hc_6, H⟩ := ii H
       ·refine s_on h rfl rfl hc_6 <| s_fieldAddr h rfl U28 rfl ti26 rfl rfl fun a h=>s_on h rfl rfl hc_6 <| s_load h rfl rfl (hS.load_one (p := 3) rfl U26 rfl rfl) fun a h=>s_on h rfl rfl hc_6 <| s_fieldAddr h rfl U28 rfl ti26 rfl rfl fun a h=>s_on h rfl rfl hc_6 <| s_load h rfl rfl (hS.load_one (p := 4) rfl U26 rfl rfl) fun a h=>s_on h rfl rfl hc_6 ?_
        obtain ⟨t_3, et_3, H⟩ := bs H
        refine s_call h rfl Try.call81 rfl (bytes_Equal.calls x0.Cmd.Old _ x1.Cmd.Old _ t_3 w0 _ _ _ mr (hS.enter [] (by decide)) (hp0_2.mono (hA.trans (hS.le_zed []))) (hp1_5.mono (hA.trans (hS.le_zed []))) et_3) ?_
        rintro _ w_7 ⟨N_6, rfl, hS'⟩
        intro a h
        obtain ⟨N_7, hS'', le_4, ln_3⟩ := hS.call [] (by decide) rfl (l' := []) (ow := []) rfl hS'
        replace hS : Sep w0 w_7 [N_7, _, _, _, _] Z := hS''
        refine pt h rfl hc_6 fun a h=>sg h rfl fun a h=>wpList_nil <| x_then_n (hKJ_2 _ _ ?_)
        refine wp_ret ?_
        obtain rfl := Option.some.inj H
        exact r1 h 4 rfl rfl ⟨_, rfl, N_7, rfl, (hS.sel [0] (by decide))⟩
       ·refine of h rfl rfl (ef hc_6) fun a h=>of h rfl rfl (ef hc_6) fun a h=>of h rfl rfl (ef hc_6) fun a h=>of h rfl rfl (ef hc_6) fun a h=>of h rfl rfl (ef hc_6) fun a h=>pf h rfl (ef hc_6) fun a h=>sg h rfl fun a h=>wpList_nil <| x_then_n (hKJ_2 _ _ ?_)
        refine wp_ret ?_
        obtain rfl := Option.some.inj H
        exact r1 h 4 rfl rfl ⟨_, rfl, N_5, rfl, (hS.sel [0] (by decide))⟩
      ·refine of h rfl rfl (ef hc_5) fun a h=>of h rfl rfl (ef hc_5) fun a h=>of h rfl rfl (ef hc_5) fun a h=>of h rfl rfl (ef hc_5) fun a h=>of h rfl rfl (ef hc_5) fun a h=>pf h rfl (ef hc_5) fun a h=>mv h rfl fun a h=>oo h rfl rfl fun a h=>oo h rfl rfl fun a h=>oo h rfl rfl fun a h=>oo h rfl rfl fun a h=>oo h rfl rfl fun a h=>?_
       refine pf h rfl rfl fun a h=>sg h rfl fun a h=>wpList_nil <| x_then_n (hKJ_2 _ _ ?_)
       refine wp_ret ?_
       obtain rfl := Option.some.inj H
       exact r1 h 4 rfl rfl ⟨_, rfl, N_3, rfl, (hS.sel [0] (by decide))⟩
     ·refine of h rfl rfl (bf hc_4) fun a h=>of h rfl rfl (bf hc_4) fun a h=>of h rfl rfl (bf hc_4) fun a h=>of h rfl rfl (bf hc_4) fun a h=>of h rfl rfl (bf hc_4) fun a h=>pf h rfl (bf hc_4) fun a h=>mv h rfl fun a h=>oo h rfl rfl fun a h=>oo h rfl rfl fun a h=>oo h rfl rfl fun a h=>oo h rfl rfl fun a h=>oo h rfl rfl fun a h=>?_
      refine pf h rfl rfl fun a h=>mv h rfl fun a h=>oo h rfl rfl fun a h=>oo h rfl rfl fun a h=>oo h rfl rfl fun a h=>oo h rfl rfl fun a h=>oo h rfl rfl fun a h=>pf h rfl rfl fun a h=>sg h rfl fun a h=>wpList_nil <| x_then_n (hKJ_2 _ _ ?_)
      refine wp_ret ?_
      obtain rfl := Option.some.inj H
      exact r1 h 4 rfl rfl ⟨_, rfl, N_1, rfl, (hS.sel [0] (by decide))⟩
    ·refine of h rfl rfl (bf hc_3) fun a h=>of h rfl rfl (bf hc_3) fun a h=>of h rfl rfl (bf hc_3) fun a h=>of h rfl rfl (bf hc_3) fun a h=>of h rfl rfl (bf hc_3) fun a h=>pf h rfl (bf hc_3) fun a h=>mv h rfl fun a h=>oo h rfl rfl fun a h=>oo h rfl rfl fun a h=>oo h rfl rfl fun a h=>oo h rfl rfl fun a h=>oo h rfl rfl fun a h=>?_
     refine pf h rfl rfl fun a h=>mv h rfl fun a h=>oo h rfl rfl fun a h=>oo h rfl rfl fun a h=>oo h rfl rfl fun a h=>oo h rfl rfl fun a h=>oo h rfl rfl fun a h=>pf h rfl rfl fun a h=>mv h rfl fun a h=>oo h rfl rfl fun a h=>oo h rfl rfl fun a h=>oo h rfl rfl fun a h=>?_
     refine oo h rfl rfl fun a h=>oo h rfl rfl fun a h=>pf h rfl rfl fun a h=>sg h rfl fun a h=>wpList_nil <| x_then_n (hKJ_2 _ _ ?_)
     refine wp_ret ?_
     obtain rfl := Option.some.inj H
     exact r1 h 4 rfl rfl ⟨_, rfl, N_1, rfl, (hS.sel [0] (by decide))⟩
   ·refine of h rfl rfl (bf hc_2) fun a h=>of h rfl rfl (bf hc_2) fun a h=>of h rfl rfl (bf hc_2) fun a h=>of h rfl rfl (bf hc_2) fun a h=>of h rfl rfl (bf hc_2) fun a h=>pf h rfl (bf hc_2) fun a h=>mv h rfl fun a h=>oo h rfl rfl fun a h=>oo h rfl rfl fun a h=>oo h rfl rfl fun a h=>oo h rfl rfl fun a h=>oo h rfl rfl fun a h=>?_
    refine pf h rfl rfl fun a h=>mv h rfl fun a h=>oo h rfl rfl fun a h=>oo h rfl rfl fun a h=>oo h rfl rfl fun a h=>oo h rfl rfl fun a h=>oo h rfl rfl fun a h=>pf h rfl rfl fun a h=>mv h rfl fun a h=>oo h rfl rfl fun a h=>oo h rfl rfl fun a h=>oo h rfl rfl fun a h=>?_
    refine oo h rfl rfl fun a h=>oo h rfl rfl fun a h=>pf h rfl rfl fun a h=>mv h rfl fun a h=>oo h rfl rfl fun a h=>oo h rfl rfl fun a h=>oo h rfl rfl fun a h=>oo h rfl rfl fun a h=>oo h rfl rfl fun a h=>pf h rfl rfl fun a h=>sg h rfl fun a h=>wpList_nil <| x_then_n (hKJ_2 _ _ ?_)
    refine wp_ret ?_
    obtain rfl := Option.some.inj H
    exact r1 h 4 rfl rfl ⟨_, rfl, N_1, rfl, (hS.sel [0] (by decide))⟩
  ·refine of h rfl rfl (bf hc_1) fun a h=>of h rfl rfl (bf hc_1) fun a h=>of h rfl rfl (bf hc_1) fun a h=>of h rfl rfl (bf hc_1) fun a h=>of h rfl rfl (bf hc_1) fun a h=>pf h rfl (bf hc_1) fun a h=>mv h rfl fun a h=>oo h rfl rfl fun a h=>oo h rfl rfl fun a h=>oo h rfl rfl fun a h=>oo h rfl rfl fun a h=>oo h rfl rfl fun a h=>?_
   refine pf h rfl rfl fun a h=>mv h rfl fun a h=>oo h rfl rfl fun a h=>oo h rfl rfl fun a h=>oo h rfl rfl fun a h=>oo h rfl rfl fun a h=>oo h rfl rfl fun a h=>pf h rfl rfl fun a h=>mv h rfl fun a h=>oo h rfl rfl fun a h=>oo h rfl rfl fun a h=>oo h rfl rfl fun a h=>?_
   refine oo h rfl rfl fun a h=>oo h rfl rfl fun a h=>pf h rfl rfl fun a h=>mv h rfl fun a h=>oo h rfl rfl fun a h=>oo h rfl rfl fun a h=>oo h rfl rfl fun a h=>oo h rfl rfl fun a h=>oo h rfl rfl fun a h=>pf h rfl rfl fun a h=>mv h rfl fun a h=>oo h rfl rfl fun a h=>?_
   refine oo h rfl rfl fun a h=>oo h rfl rfl fun a h=>oo h rfl rfl fun a h=>oo h rfl rfl fun a h=>pf h rfl rfl fun a h=>sg h rfl fun a h=>wpList_nil <| x_then_n (hKJ_2 _ _ ?_)
   refine wp_ret ?_
   obtain rfl := Option.some.inj H
   exact r1 h 4 rfl rfl ⟨_, rfl, N_1, rfl, (hS.sel [0] (by decide))⟩
 have hD_7_127 : ∀ (a : Act) (w_8 : World), (∃ (g_5 : Nat) (g_6 : Nat) (N_8 : Mem), Fr 58 a [(2, .pointer (some ⟨g_1, 0, none⟩)), (3, .pointer (some ⟨g_2, 0, none⟩)), (4, .bool false), (5, .pointer (some ⟨g_5, 0, none⟩)), (6, .pointer (some ⟨g_6, 0, none⟩)), (10, .agg (E28 x1.Cmd p1_3 p1_4 p1_5).toArray)] ∧ Sep w0 w_8 [N_8, bx g_1 30 (E30 x0 p0_0 p0_1 p0_2), bx g_2 30 (E30 x1 p1_3 p1_4 p1_5), bx g_5 28 (E28 x0.Cmd p0_0 p0_1 p0_2), bx g_6 28 [iV 0, iV 0, nS, nS, nS]] Z ∧ Mem.no.le N_8) → GD_1 1 (bA 8 127) a w_8 := by
  rintro a w_8 ⟨g_5, g_6, N_8, h, hS, le_5⟩
  refine (hGD_1 _ _ _ _).2 <| h_events [7] (by kernel_rfl) (by simp) ?_
  intro i hi; simp only [List.mem_cons, List.not_mem_nil, or_false] at hi; rcases hi with rfl
  refine ⟨_, (bA 8 255), rfl, by kernel_rfl, ?_⟩
  refine sto 4 h rfl rfl hS rfl ti28 rfl rfl rfl (oa 2 rfl (oc hp1_3.one (oc hp1_4.one (oc hp1_5.one on0)))) fun w_9 hS' => ?_
  replace hS : Sep w0 w_9 [_, _, _, _, bx g_6 28 (E28 x1.Cmd p1_3 p1_4 p1_5)] Z := hS'
  refine wpList_nil <| x_then_n ⟨(hS.sub (.cons le_5 (.rr (.rr .nn)))), ?_⟩
  exact (hGD_1 _ _ _ _).1 (hD_7_255 _ _ ⟨g_5, g_6, N_8, (h.keep [2, 3, 4, 5, 6]), (hS.sel [0, 1, 2, 3, 4] (by decide)), le_5⟩)
 have hD_7_63 : ∀ (a : Act) (w_10 : World), (∃ (g_7 : Nat) (g_8 : Nat) (N_9 : Mem), Fr 58 a [(2, .pointer (some ⟨g_1, 0, none⟩)), (3, .pointer (some ⟨g_2, 0, none⟩)), (4, .bool false), (5, .pointer (some ⟨g_7, 0, none⟩)), (6, .pointer (some ⟨g_8, 0, none⟩)), (8, .agg (E28 x0.Cmd p0_0 p0_1 p0_2).toArray), (10, .agg (E28 x1.Cmd p1_3 p1_4 p1_5).toArray)] ∧ Sep w0 w_10 [N_9, bx g_1 30 (E30 x0 p0_0 p0_1 p0_2), bx g_2 30 (E30 x1 p1_3 p1_4 p1_5), bx g_7 28 [iV 0, iV 0, nS, nS, nS], bx g_8 28 [iV 0, iV 0, nS, nS, nS]] Z ∧ Mem.no.le N_9) → GD_1 2 (bA 8 63) a w_10 := by
  rintro a w_10 ⟨g_7, g_8, N_9, h, hS, le_6⟩
  refine (hGD_1 _ _ _ _).2 <| h_events [6] (by kernel_rfl) (by simp) ?_
  intro i hi; simp only [List.mem_cons, List.not_mem_nil, or_false] at hi; rcases hi with rfl
  refine ⟨_, (bA 8 127), rfl, by kernel_rfl, ?_⟩
  refine sto 3 h rfl rfl hS rfl ti28 rfl rfl rfl (oa 2 rfl (oc hp0_0.one (oc hp0_1.one (oc hp0_2.one on0)))) fun w_11 hS' => ?_
  replace hS : Sep w0 w_11 [_, _, _, bx g_7 28 (E28 x0.Cmd p0_0 p0_1 p0_2), _] Z := hS'
  refine wpList_nil <| x_then_n ⟨(hS.sub (.cons le_6 (.rr (.rr .nn)))), ?_⟩
  exact (hGD_1 _ _ _ _).1 (hD_7_127 _ _ ⟨g_7, g_8, N_9, (h.keep [2, 3, 4, 5, 6, 10]), (hS.sel [0, 1, 2, 3, 4] (by decide)), le_6⟩)
 have hD_7_31 : ∀ (a : Act) (w_12 : World), (∃ (g_9 : Nat) (N_10 : Mem), Fr 58 a [(2, .pointer (some ⟨g_1, 0, none⟩)), (3, .pointer (some ⟨g_2, 0, none⟩)), (4, .bool false), (5, .pointer (some ⟨g_9, 0, none⟩)), (8, .agg (E28 x0.Cmd p0_0 p0_1 p0_2).toArray), (10, .agg (E28 x1.Cmd p1_3 p1_4 p1_5).toArray)] ∧ Sep w0 w_12 [N_10, bx g_1 30 (E30 x0 p0_0 p0_1 p0_2), bx g_2 30 (E30 x1 p1_3 p1_4 p1_5), bx g_9 28 [iV 0, iV 0, nS, nS, nS]] Z ∧ Mem.no.le N_10) → GD_1 3 (bA 8 31) a w_12 := by
  rintro a w_12 ⟨g_9, N_10, h, hS, le_7⟩
  refine (hGD_1 _ _ _ _).2 <| h_events [5] (by kernel_rfl) (by simp) ?_
  intro i hi; simp only [List.mem_cons, List.not_mem_nil, or_false] at hi; rcases hi with rfl
  refine ⟨_, (bA 8 63), rfl, by kernel_rfl, ?_⟩
  refine v_alloc h rfl ti28 hS fun w_13 g_10 hS' a h => ?_
  replace hS : Sep w0 w_13 [_, _, _, _, bx g_10 28 [iV 0, iV 0, nS, nS, nS]] Z := hS'
  refine wpList_nil <| x_then_n ⟨(hS.sub (.cons le_7 (.rr (.rr .nn)))), ?_⟩
  exact (hGD_1 _ _ _ _).1 (hD_7_63 _ _ ⟨g_9, g_10, N_10, (h.keep [2, 3, 4, 5, 6, 8, 10]), (hS.sel [0, 1, 2, 3, 4] (by decide)), le_7⟩)
 have hD_7_47 : ∀ (a : Act) (w_14 : World), (∃ (g_11 : Nat) (N_11 : Mem), Fr 58 a [(2, .pointer (some ⟨g_1, 0, none⟩)), (3, .pointer (some ⟨g_2, 0, none⟩)), (4, .bool false), (6, .pointer (some ⟨g_11, 0, none⟩)), (8, .agg (E28 x0.Cmd p0_0 p0_1 p0_2).toArray), (10, .agg (E28 x1.Cmd p1_3 p1_4 p1_5).toArray)] ∧ Sep w0 w_14 [N_11, bx g_1 30 (E30 x0 p0_0 p0_1 p0_2), bx g_2 30 (E30 x1 p1_3 p1_4 p1_5), bx g_11 28 [iV 0, iV 0, nS, nS, nS]] Z ∧ Mem.no.le N_11) → GD_1 3 (bA 8 47) a w_14 := by
  rintro a w_14 ⟨g_11, N_11, h, hS, le_8⟩
  refine (hGD_1 _ _ _ _).2 <| h_events [4] (by kernel_rfl) (by simp) ?_
  intro i hi; simp only [List.mem_cons, List.not_mem_nil, or_false] at hi; rcases hi with rfl
  refine ⟨_, (bA 8 63), rfl, by kernel_rfl, ?_⟩
  refine v_alloc h rfl ti28 hS fun w_15 g_12 hS' a h => ?_
  replace hS : Sep w0 w_15 [_, _, _, _, bx g_12 28 [iV 0, iV 0, nS, nS, nS]] Z := hS'
  refine wpList_nil <| x_then_n ⟨(hS.sub (.cons le_8 (.rr (.rr .nn)))), ?_⟩
  exact (hGD_1 _ _ _ _).1 (hD_7_63 _ _ ⟨g_12, g_11, N_11, (h.keep [2, 3, 4, 5, 6, 8, 10]), (hS.sel [0, 1, 2, 4, 3] (by decide)), le_8⟩)
 refine (hGD_1 _ _ _ _).2 <| h_events [4, 5] (by kernel_rfl) (by simp) ?_
 intro i hi; simp only [List.mem_cons, List.not_mem_nil, or_false] at hi; rcases hi with rfl | rfl
 ·refine ⟨_, (bA 8 31), rfl, by kernel_rfl, ?_⟩
  refine v_alloc h rfl ti28 hS fun w_16 g_13 hS' a h => ?_
  replace hS : Sep w0 w_16 [_, _, _, bx g_13 28 [iV 0, iV 0, nS, nS, nS]] Z := hS'
  refine wpList_nil <| x_then_n ⟨(hS.sub (.cons mr (.rr (.rr .nn)))), ?_⟩
  exact (hGD_1 _ _ _ _).1 (hD_7_31 _ _ ⟨g_13, Mem.no, (h.keep [2, 3, 4, 5, 8, 10]), (hS.sel [0, 1, 2, 3] (by decide)), mr⟩)
 ·refine ⟨_, (bA 8 47), rfl, by kernel_rfl, ?_⟩
  refine v_alloc h rfl ti28 hS fun w_17 g_14 hS' a h => ?_
  replace hS : Sep w0 w_17 [_, _, _, bx g_14 28 [iV 0, iV 0, nS, nS, nS]] Z := hS'
  refine wpList_nil <| x_then_n ⟨(hS.sub (.cons mr (.rr (.rr .nn)))), ?_⟩
  exact (hGD_1 _ _ _ _).1 (hD_7_47 _ _ ⟨g_14, Mem.no, (h.keep [2, 3, 4, 6, 8, 10]), (hS.sel [0, 1, 2, 3] (by decide)), mr⟩)

set_option maxHeartbeats 4000000 in
set_option maxRecDepth 20000 in
theorem mesg_fields.calls (K : Nat) (x0 : api_Msg) (p0_0 : Value) (p0_1 : Value) (p0_2 : Value) (p0_3 : Value) (p0_4 : Value) (p0_5 : Value) (x1 : api_Msg) (p1_6 : Value) (p1_7 : Value) (p1_8 : Value) (p1_9 : Value) (p1_10 : Value) (p1_11 : Value) (r : Bool) (w0 w : World) (Z A : Mem) (hA : A.le Z) (hS : Sep w0 w [] Z) (hp0_0 : Rd Kd.u8 A p0_0 x0.Data) (hp0_1 : Rd (Kd.int .i64) A p0_1 x0.Have) (hp0_2 : Rd (Kd.int .i64) A p0_2 x0.Need) (hp0_3 : Rd Kd.u8 A p0_3 x0.Entry.Cmd.Key) (hp0_4 : Rd Kd.u8 A p0_4 x0.Entry.Cmd.Val) (hp0_5 : Rd Kd.u8 A p0_5 x0.Entry.Cmd.Old) (hp1_6 : Rd Kd.u8 A p1_6 x1.Data) (hp1_7 : Rd (Kd.int .i64) A p1_7 x1.Have) (hp1_8 : Rd (Kd.int .i64) A p1_8 x1.Need) (hp1_9 : Rd Kd.u8 A p1_9 x1.Entry.Cmd.Key) (hp1_10 : Rd Kd.u8 A p1_10 x1.Entry.Cmd.Val) (hp1_11 : Rd Kd.u8 A p1_11 x1.Entry.Cmd.Old)
    (H : mesg_fields.f K x0 x1 = some r) :
    Calls Try.prog 75 [.agg (E32 x0 p0_0 p0_1 p0_2 p0_3 p0_4 p0_5).toArray, .agg (E32 x1 p1_6 p1_7 p1_8 p1_9 p1_10 p1_11).toArray].toArray w (Ret fun v w' => ∃ (N : Mem), v = .bool r ∧ Sep w0 w' [N] Z) := by
 unfold mesg_fields.f at H
 refine f_enter _ Try.func75 rfl Try.ntmps75 rfl fun a h=>?_
 replace h : Fr 119 a [(0, .agg (E32 x0 p0_0 p0_1 p0_2 p0_3 p0_4 p0_5).toArray), (1, .agg (E32 x1 p1_6 p1_7 p1_8 p1_9 p1_10 p1_11).toArray)] := h
 replace hS := hS.start
 refine qr <| v_box (vs := (E32 x0 p0_0 p0_1 p0_2 p0_3 p0_4 p0_5)) h rfl rfl rfl hS fun w_1 g_1 hS' a h => ?_
 replace hS : Sep w0 w_1 [_, bx g_1 32 (E32 x0 p0_0 p0_1 p0_2 p0_3 p0_4 p0_5)] Z := hS'
 refine v_box (vs := (E32 x1 p1_6 p1_7 p1_8 p1_9 p1_10 p1_11)) h rfl rfl rfl hS fun w_2 g_2 hS' a h => ?_
 replace hS : Sep w0 w_2 [_, _, bx g_2 32 (E32 x1 p1_6 p1_7 p1_8 p1_9 p1_10 p1_11)] Z := hS'
 refine sg h rfl fun a h=>nx <| c_seq fun KJ_1 hKJ_1 => qr <| s_fieldAddr h rfl U32 rfl ti3 rfl rfl fun a h=>s_load h rfl rfl (hS.load_one (p := 1) rfl U3 rfl rfl) fun a h=>nx <| c_block <| wp_seq <| wp_region_lit ?_
 refine s_cmp (b := (x0.Kind == 2)) h rfl rfl rfl (.inl ⟨rfl, rfl⟩) fun a h=>sg h rfl fun a h=>wpList_nil <| x_then_n ?_
 obtain ⟨hc_1, H⟩ | ⟨hc_1, H⟩ := ii H
 ·refine c_cond_t h rfl (bt hc_1) <| c_seq fun KJ_2 hKJ_2 => wp_region_lit <| s_fieldAddr h rfl U32 rfl ti3 rfl rfl fun a h=>s_load h rfl rfl (hS.load_one (p := 1) rfl U3 rfl rfl) fun a h=>s_fieldAddr h rfl U32 rfl ti3 rfl rfl fun a h=>s_load h rfl rfl (hS.load_one (p := 2) rfl U3 rfl rfl) fun a h=>s_cmp (b := (x0.Inst == x1.Inst)) h rfl rfl rfl (.inl ⟨rfl, rfl⟩) fun a h=>mv h rfl fun a h=>?_
  obtain ⟨hc_2, H⟩ | ⟨hc_2, H⟩ := ii H
  ·refine s_on h rfl rfl (bt hc_2) <| s_fieldAddr h rfl U32 rfl ti3 rfl rfl fun a h=>s_on h rfl rfl (bt hc_2) <| s_load h rfl rfl (hS.load_one (p := 1) rfl U3 rfl rfl) fun a h=>s_on h rfl rfl (bt hc_2) <| s_fieldAddr h rfl U32 rfl ti3 rfl rfl fun a h=>s_on h rfl rfl (bt hc_2) <| s_load h rfl rfl (hS.load_one (p := 2) rfl U3 rfl rfl) fun a h=>s_on h rfl rfl (bt hc_2) <| s_cmp (b := (x0.Len == x1.Len)) h rfl rfl rfl (.inl ⟨rfl, rfl⟩) fun a h=>pt h rfl (bt hc_2) fun a h=>mv h rfl fun a h=>?_
   obtain ⟨hc_3, H⟩ | ⟨hc_3, H⟩ := ii H
   ·refine s_on h rfl rfl (bt hc_3) <| s_fieldAddr h rfl U32 rfl ti4 rfl rfl fun a h=>s_on h rfl rfl (bt hc_3) <| s_load h rfl rfl (hS.load_one (p := 1) rfl U4 rfl rfl) fun a h=>s_on h rfl rfl (bt hc_3) <| s_fieldAddr h rfl U32 rfl ti4 rfl rfl fun a h=>s_on h rfl rfl (bt hc_3) <| s_load h rfl rfl (hS.load_one (p := 2) rfl U4 rfl rfl) fun a h=>s_on h rfl rfl (bt hc_3) <| s_beq (b := (x0.Has == x1.Has)) h rfl U4 rfl rfl (.inl ⟨rfl, rfl⟩) fun a h=>pt h rfl (bt hc_3) fun a h=>sg h rfl fun a h=>?_
    refine wpList_nil ?_
    replace h : Fr 119 a [(4, .bool (x0.Has == x1.Has))] := h.keep [4]
    refine x_then_n (hKJ_2 _ _ ?_)
    refine wp_ret (x_block_r (x_then_r ?_))
    obtain rfl := Option.some.inj H
    exact r1 h 4 rfl rfl ⟨_, rfl, Mem.no, rfl, (hS.sel [0] (by decide))⟩
   ·refine of h rfl rfl (bf hc_3) fun a h=>of h rfl rfl (bf hc_3) fun a h=>of h rfl rfl (bf hc_3) fun a h=>of h rfl rfl (bf hc_3) fun a h=>of h rfl rfl (bf hc_3) fun a h=>pf h rfl (bf hc_3) fun a h=>sg h rfl fun a h=>wpList_nil ?_
    replace h : Fr 119 a [(4, .bool false)] := h.keep [4]
    refine x_then_n (hKJ_2 _ _ ?_)
    refine wp_ret (x_block_r (x_then_r ?_))
    obtain rfl := Option.some.inj H
    exact r1 h 4 rfl rfl ⟨_, rfl, Mem.no, rfl, (hS.sel [0] (by decide))⟩
  ·refine of h rfl rfl (bf hc_2) fun a h=>of h rfl rfl (bf hc_2) fun a h=>of h rfl rfl (bf hc_2) fun a h=>of h rfl rfl (bf hc_2) fun a h=>of h rfl rfl (bf hc_2) fun a h=>pf h rfl (bf hc_2) fun a h=>mv h rfl fun a h=>oo h rfl rfl fun a h=>oo h rfl rfl fun a h=>oo h rfl rfl fun a h=>oo h rfl rfl fun a h=>oo h rfl rfl fun a h=>?_
   refine pf h rfl rfl fun a h=>sg h rfl fun a h=>wpList_nil ?_
   replace h : Fr 119 a [(4, .bool false)] := h.keep [4]
   refine x_then_n (hKJ_2 _ _ ?_)
   refine wp_ret (x_block_r (x_then_r ?_))
   obtain rfl := Option.some.inj H
   exact r1 h 4 rfl rfl ⟨_, rfl, Mem.no, rfl, (hS.sel [0] (by decide))⟩
 ·refine c_cond_f h rfl (bf hc_1) <| qr <| s_cmp (b := (x0.Kind == 3)) h rfl rfl rfl (.inl ⟨rfl, rfl⟩) fun a h=>sg h rfl fun a h=>wpList_nil ?_
  replace h : Fr 119 a [(2, .pointer (some ⟨g_1, 0, none⟩)), (3, .pointer (some ⟨g_2, 0, none⟩)), (4, .bool false), (6, iV x0.Kind), (28, .bool (x0.Kind == 3))] := h.keep [2, 3, 4, 6, 28]
  refine x_then_n ?_
  obtain ⟨hc_4, H⟩ | ⟨hc_4, H⟩ := ii H
  ·refine c_cond_t h rfl (bt hc_4) <| c_seq fun KJ_3 hKJ_3 => wp_region_lit <| s_fieldAddr h rfl U32 rfl ti3 rfl rfl fun a h=>s_load h rfl rfl (hS.load_one (p := 1) rfl U3 rfl rfl) fun a h=>s_fieldAddr h rfl U32 rfl ti3 rfl rfl fun a h=>s_load h rfl rfl (hS.load_one (p := 2) rfl U3 rfl rfl) fun a h=>s_cmp (b := (x0.Members == x1.Members)) h rfl rfl rfl (.inl ⟨rfl, rfl⟩) fun a h=>mv h rfl fun a h=>?_
   obtain ⟨hc_5, H⟩ | ⟨hc_5, H⟩ := ii H
   ·refine s_on h rfl rfl (bt hc_5) <| s_fieldAddr h rfl U32 rfl ti3 rfl rfl fun a h=>s_on h rfl rfl (bt hc_5) <| s_load h rfl rfl (hS.load_one (p := 1) rfl U3 rfl rfl) fun a h=>s_on h rfl rfl (bt hc_5) <| s_fieldAddr h rfl U32 rfl ti3 rfl rfl fun a h=>s_on h rfl rfl (bt hc_5) <| s_load h rfl rfl (hS.load_one (p := 2) rfl U3 rfl rfl) fun a h=>s_on h rfl rfl (bt hc_5) <| s_cmp (b := (x0.Source == x1.Source)) h rfl rfl rfl (.inl ⟨rfl, rfl⟩) fun a h=>pt h rfl (bt hc_5) fun a h=>mv h rfl fun a h=>?_
    obtain ⟨hc_6, H⟩ | ⟨hc_6, H⟩ := ii H
    ·refine s_on h rfl rfl (bt hc_6) <| s_fieldAddr h rfl U32 rfl ti3 rfl rfl fun a h=>s_on h rfl rfl (bt hc_6) <| s_load h rfl rfl (hS.load_one (p := 1) rfl U3 rfl rfl) fun a h=>s_on h rfl rfl (bt hc_6) <| s_fieldAddr h rfl U32 rfl ti3 rfl rfl fun a h=>s_on h rfl rfl (bt hc_6) <| s_load h rfl rfl (hS.load_one (p := 2) rfl U3 rfl rfl) fun a h=>s_on h rfl rfl (bt hc_6) <| s_cmp (b := (x0.Len == x1.Len)) h rfl rfl rfl (.inl ⟨rfl, rfl⟩) fun a h=>pt h rfl (bt hc_6) fun a h=>sg h rfl fun a h=>?_
     refine wpList_nil <| x_then_n (hKJ_3 _ _ ?_)
     refine wp_ret (x_block_r (x_then_r ?_))
     obtain rfl := Option.some.inj H
     exact r1 h 4 rfl rfl ⟨_, rfl, Mem.no, rfl, (hS.sel [0] (by decide))⟩
    ·refine of h rfl rfl (bf hc_6) fun a h=>of h rfl rfl (bf hc_6) fun a h=>of h rfl rfl (bf hc_6) fun a h=>of h rfl rfl (bf hc_6) fun a h=>of h rfl rfl (bf hc_6) fun a h=>pf h rfl (bf hc_6) fun a h=>sg h rfl fun a h=>wpList_nil <| x_then_n (hKJ_3 _ _ ?_)
     refine wp_ret (x_block_r (x_then_r ?_))
     obtain rfl := Option.some.inj H
     exact r1 h 4 rfl rfl ⟨_, rfl, Mem.no, rfl, (hS.sel [0] (by decide))⟩
   ·refine of h rfl rfl (bf hc_5) fun a h=>of h rfl rfl (bf hc_5) fun a h=>of h rfl rfl (bf hc_5) fun a h=>of h rfl rfl (bf hc_5) fun a h=>of h rfl rfl (bf hc_5) fun a h=>pf h rfl (bf hc_5) fun a h=>mv h rfl fun a h=>oo h rfl rfl fun a h=>oo h rfl rfl fun a h=>oo h rfl rfl fun a h=>oo h rfl rfl fun a h=>oo h rfl rfl fun a h=>?_
    refine pf h rfl rfl fun a h=>sg h rfl fun a h=>wpList_nil <| x_then_n (hKJ_3 _ _ ?_)
    refine wp_ret (x_block_r (x_then_r ?_))
    obtain rfl := Option.some.inj H
    exact r1 h 4 rfl rfl ⟨_, rfl, Mem.no, rfl, (hS.sel [0] (by decide))⟩
  ·refine c_cond_f h rfl (bf hc_4) <| qr <| s_cmp (b := (x0.Kind == 4)) h rfl rfl rfl (.inl ⟨rfl, rfl⟩) fun a h=>sg h rfl fun a h=>wpList_nil <| x_then_n ?_
   obtain ⟨hc_7, H⟩ | ⟨hc_7, H⟩ := ii H
   ·refine c_cond_t h rfl (bt hc_7) <| qr <| s_fieldAddr h rfl U32 rfl ti3 rfl rfl fun a h=>s_load h rfl rfl (hS.load_one (p := 1) rfl U3 rfl rfl) fun a h=>s_fieldAddr h rfl U32 rfl ti3 rfl rfl fun a h=>s_load h rfl rfl (hS.load_one (p := 2) rfl U3 rfl rfl) fun a h=>s_cmp (b := (x0.At == x1.At)) h rfl rfl rfl (.inl ⟨rfl, rfl⟩) fun a h=>sg h rfl fun a h=>nx <| wp_ret (x_block_r (x_then_r ?_))
    obtain rfl := Option.some.inj H
    exact r1 h 4 rfl rfl ⟨_, rfl, Mem.no, rfl, (hS.sel [0] (by decide))⟩
   ·refine c_cond_f h rfl (bf hc_7) <| qr <| s_cmp (b := (x0.Kind == 5)) h rfl rfl rfl (.inl ⟨rfl, rfl⟩) fun a h=>sg h rfl fun a h=>wpList_nil <| x_then_n ?_
    obtain ⟨hc_8, H⟩ | ⟨hc_8, H⟩ := ii H
    ·refine c_cond_t h rfl (bt hc_8) <| c_seq fun KJ_4 hKJ_4 => wp_region_lit <| s_fieldAddr h rfl U32 rfl ti3 rfl rfl fun a h=>s_load h rfl rfl (hS.load_one (p := 1) rfl U3 rfl rfl) fun a h=>s_fieldAddr h rfl U32 rfl ti3 rfl rfl fun a h=>s_load h rfl rfl (hS.load_one (p := 2) rfl U3 rfl rfl) fun a h=>s_cmp (b := (x0.At == x1.At)) h rfl rfl rfl (.inl ⟨rfl, rfl⟩) fun a h=>mv h rfl fun a h=>?_
     obtain ⟨hc_9, H⟩ | ⟨hc_9, H⟩ := ii H
     ·refine s_on h rfl rfl (bt hc_9) <| s_fieldAddr h rfl U32 rfl ti3 rfl rfl fun a h=>s_on h rfl rfl (bt hc_9) <| s_load h rfl rfl (hS.load_one (p := 1) rfl U3 rfl rfl) fun a h=>s_on h rfl rfl (bt hc_9) <| s_fieldAddr h rfl U32 rfl ti3 rfl rfl fun a h=>s_on h rfl rfl (bt hc_9) <| s_load h rfl rfl (hS.load_one (p := 2) rfl U3 rfl rfl) fun a h=>s_on h rfl rfl (bt hc_9) <| s_cmp (b := (x0.Total == x1.Total)) h rfl rfl rfl (.inl ⟨rfl, rfl⟩) fun a h=>pt h rfl (bt hc_9) fun a h=>mv h rfl fun a h=>?_
      obtain ⟨hc_10, H⟩ | ⟨hc_10, H⟩ := ii H
      ·refine s_on h rfl rfl (bt hc_10) <| s_fieldAddr h rfl U32 rfl ti26 rfl rfl fun a h=>s_on h rfl rfl (bt hc_10) <| s_load h rfl rfl (hS.load_one (p := 1) rfl U26 rfl rfl) fun a h=>s_on h rfl rfl (bt hc_10) <| s_fieldAddr h rfl U32 rfl ti26 rfl rfl fun a h=>s_on h rfl rfl (bt hc_10) <| s_load h rfl rfl (hS.load_one (p := 2) rfl U26 rfl rfl) fun a h=>s_on h rfl rfl (bt hc_10) ?_
       obtain ⟨t_1, et_1, H⟩ := bs H
       refine s_call h rfl Try.call81 rfl (bytes_Equal.calls x0.Data _ x1.Data _ t_1 w0 _ _ _ mr (hS.enter [] (by decide)) (hp0_0.mono (hA.trans (hS.le_zed []))) (hp1_6.mono (hA.trans (hS.le_zed []))) et_1) ?_
       rintro _ w_3 ⟨N_1, rfl, hS'⟩
       intro a h
       obtain ⟨N_2, hS'', le_1, ln_1⟩ := hS.call [] (by decide) rfl (l' := []) (ow := []) rfl hS'
       replace hS : Sep w0 w_3 [N_2, _, _] Z := hS''
       refine pt h rfl (bt hc_10) fun a h=>sg h rfl fun a h=>wpList_nil <| x_then_n (hKJ_4 _ _ ?_)
       refine wp_ret (x_block_r (x_then_r ?_))
       obtain rfl := Option.some.inj H
       exact r1 h 4 rfl rfl ⟨_, rfl, N_2, rfl, (hS.sel [0] (by decide))⟩
      ·refine of h rfl rfl (bf hc_10) fun a h=>of h rfl rfl (bf hc_10) fun a h=>of h rfl rfl (bf hc_10) fun a h=>of h rfl rfl (bf hc_10) fun a h=>of h rfl rfl (bf hc_10) fun a h=>pf h rfl (bf hc_10) fun a h=>sg h rfl fun a h=>wpList_nil <| x_then_n (hKJ_4 _ _ ?_)
       refine wp_ret (x_block_r (x_then_r ?_))
       obtain rfl := Option.some.inj H
       exact r1 h 4 rfl rfl ⟨_, rfl, Mem.no, rfl, (hS.sel [0] (by decide))⟩
     ·refine of h rfl rfl (bf hc_9) fun a h=>of h rfl rfl (bf hc_9) fun a h=>of h rfl rfl (bf hc_9) fun a h=>of h rfl rfl (bf hc_9) fun a h=>of h rfl rfl (bf hc_9) fun a h=>pf h rfl (bf hc_9) fun a h=>mv h rfl fun a h=>oo h rfl rfl fun a h=>oo h rfl rfl fun a h=>oo h rfl rfl fun a h=>oo h rfl rfl fun a h=>oo h rfl rfl fun a h=>?_
      refine pf h rfl rfl fun a h=>sg h rfl fun a h=>wpList_nil <| x_then_n (hKJ_4 _ _ ?_)
      refine wp_ret (x_block_r (x_then_r ?_))
      obtain rfl := Option.some.inj H
      exact r1 h 4 rfl rfl ⟨_, rfl, Mem.no, rfl, (hS.sel [0] (by decide))⟩
    ·refine c_cond_f h rfl (bf hc_8) <| qr <| s_cmp (b := (x0.Kind == 7)) h rfl rfl rfl (.inl ⟨rfl, rfl⟩) fun a h=>sg h rfl fun a h=>wpList_nil <| x_then_n ?_
     obtain ⟨hc_11, H⟩ | ⟨hc_11, H⟩ := ii H
     ·refine c_cond_t h rfl (bt hc_11) <| c_seq fun KJ_5 hKJ_5 => wp_region_lit <| s_fieldAddr h rfl U32 rfl ti3 rfl rfl fun a h=>s_load h rfl rfl (hS.load_one (p := 1) rfl U3 rfl rfl) fun a h=>s_fieldAddr h rfl U32 rfl ti3 rfl rfl fun a h=>s_load h rfl rfl (hS.load_one (p := 2) rfl U3 rfl rfl) fun a h=>s_cmp (b := (x0.Hop == x1.Hop)) h rfl rfl rfl (.inl ⟨rfl, rfl⟩) fun a h=>mv h rfl fun a h=>?_
      obtain ⟨hc_12, H⟩ | ⟨hc_12, H⟩ := ii H
      ·refine s_on h rfl rfl (bt hc_12) <| s_fieldAddr h rfl U32 rfl ti3 rfl rfl fun a h=>s_on h rfl rfl (bt hc_12) <| s_load h rfl rfl (hS.load_one (p := 1) rfl U3 rfl rfl) fun a h=>s_on h rfl rfl (bt hc_12) <| s_fieldAddr h rfl U32 rfl ti3 rfl rfl fun a h=>s_on h rfl rfl (bt hc_12) <| s_load h rfl rfl (hS.load_one (p := 2) rfl U3 rfl rfl) fun a h=>s_on h rfl rfl (bt hc_12) <| s_cmp (b := (x0.Seq == x1.Seq)) h rfl rfl rfl (.inl ⟨rfl, rfl⟩) fun a h=>pt h rfl (bt hc_12) fun a h=>mv h rfl fun a h=>?_
       obtain ⟨hc_13, H⟩ | ⟨hc_13, H⟩ := ii H
       ·refine s_on h rfl rfl (bt hc_13) <| s_fieldAddr h rfl U32 rfl ti22 rfl rfl fun a h=>s_on h rfl rfl (bt hc_13) <| s_load h rfl rfl (hS.load_one (p := 1) rfl U22 rfl rfl) fun a h=>s_on h rfl rfl (bt hc_13) <| s_fieldAddr h rfl U32 rfl ti22 rfl rfl fun a h=>s_on h rfl rfl (bt hc_13) <| s_load h rfl rfl (hS.load_one (p := 2) rfl U22 rfl rfl) fun a h=>s_on h rfl rfl (bt hc_13) ?_
        obtain ⟨t_2, et_2, H⟩ := bs H
        refine s_call h rfl Try.call82 rfl (slices_Equal_sint_int.calls K x0.Have _ x1.Have _ t_2 w0 _ _ _ mr (hS.enter [] (by decide)) (hp0_1.mono (hA.trans (hS.le_zed []))) (hp1_7.mono (hA.trans (hS.le_zed []))) et_2) ?_
        rintro _ w_4 ⟨N_3, rfl, hS'⟩
        intro a h
        obtain ⟨N_4, hS'', le_2, ln_2⟩ := hS.call [] (by decide) rfl (l' := []) (ow := []) rfl hS'
        replace hS : Sep w0 w_4 [N_4, _, _] Z := hS''
        refine pt h rfl (bt hc_13) fun a h=>mv h rfl fun a h=>?_
        obtain ⟨hc_14, H⟩ | ⟨hc_14, H⟩ := ii H
        ·refine s_on h rfl rfl hc_14 <| s_fieldAddr h rfl U32 rfl ti22 rfl rfl fun a h=>s_on h rfl rfl hc_14 <| s_load h rfl rfl (hS.load_one (p := 1) rfl U22 rfl rfl) fun a h=>s_on h rfl rfl hc_14 <| s_fieldAddr h rfl U32 rfl ti22 rfl rfl fun a h=>s_on h rfl rfl hc_14 <| s_load h rfl rfl (hS.load_one (p := 2) rfl U22 rfl rfl) fun a h=>s_on h rfl rfl hc_14 ?_
         obtain ⟨t_3, et_3, H⟩ := bs H
         refine s_call h rfl Try.call82 rfl (slices_Equal_sint_int.calls K x0.Need _ x1.Need _ t_3 w0 _ _ _ mr (hS.enter [] (by decide)) (hp0_2.mono (hA.trans (hS.le_zed []))) (hp1_8.mono (hA.trans (hS.le_zed []))) et_3) ?_
         rintro _ w_5 ⟨N_5, rfl, hS'⟩
         intro a h
         obtain ⟨N_6, hS'', le_3, ln_3⟩ := hS.call [] (by decide) rfl (l' := []) (ow := []) rfl hS'
         replace hS : Sep w0 w_5 [N_6, _, _] Z := hS''
         refine pt h rfl hc_14 fun a h=>sg h rfl fun a h=>wpList_nil ?_
         replace h : Fr 119 a [(4, .bool t_3)] := h.keep [4]
         refine x_then_n (hKJ_5 _ _ ?_)
         refine wp_ret (x_block_r (x_then_r ?_))
         obtain rfl := Option.some.inj H
         exact r1 h 4 rfl rfl ⟨_, rfl, N_6, rfl, (hS.sel [0] (by decide))⟩
        ·refine of h rfl rfl (ef hc_14) fun a h=>of h rfl rfl (ef hc_14) fun a h=>of h rfl rfl (ef hc_14) fun a h=>of h rfl rfl (ef hc_14) fun a h=>of h rfl rfl (ef hc_14) fun a h=>pf h rfl (ef hc_14) fun a h=>sg h rfl fun a h=>wpList_nil ?_
         replace h : Fr 119 a [(4, _)] := h.keep [4]
         refine x_then_n (hKJ_5 _ _ ?_)
         refine wp_ret (x_block_r (x_then_r ?_))
         obtain rfl := Option.some.inj H
         exact r1 h 4 rfl rfl ⟨_, rfl, N_4, rfl, (hS.sel [0] (by decide))⟩
       ·refine of h rfl rfl (bf hc_13) fun a h=>of h rfl rfl (bf hc_13) fun a h=>of h rfl rfl (bf hc_13) fun a h=>of h rfl rfl (bf hc_13) fun a h=>of h rfl rfl (bf hc_13) fun a h=>pf h rfl (bf hc_13) fun a h=>mv h rfl fun a h=>oo h rfl rfl fun a h=>oo h rfl rfl fun a h=>oo h rfl rfl fun a h=>oo h rfl rfl fun a h=>oo h rfl rfl fun a h=>?_
        refine pf h rfl rfl fun a h=>sg h rfl fun a h=>wpList_nil ?_
        replace h : Fr 119 a [(4, _)] := h.keep [4]
        refine x_then_n (hKJ_5 _ _ ?_)
        refine wp_ret (x_block_r (x_then_r ?_))
        obtain rfl := Option.some.inj H
        exact r1 h 4 rfl rfl ⟨_, rfl, Mem.no, rfl, (hS.sel [0] (by decide))⟩
      ·refine of h rfl rfl (bf hc_12) fun a h=>of h rfl rfl (bf hc_12) fun a h=>of h rfl rfl (bf hc_12) fun a h=>of h rfl rfl (bf hc_12) fun a h=>of h rfl rfl (bf hc_12) fun a h=>pf h rfl (bf hc_12) fun a h=>mv h rfl fun a h=>oo h rfl rfl fun a h=>oo h rfl rfl fun a h=>oo h rfl rfl fun a h=>oo h rfl rfl fun a h=>oo h rfl rfl fun a h=>?_
       refine pf h rfl rfl fun a h=>mv h rfl fun a h=>oo h rfl rfl fun a h=>oo h rfl rfl fun a h=>oo h rfl rfl fun a h=>oo h rfl rfl fun a h=>oo h rfl rfl fun a h=>pf h rfl rfl fun a h=>sg h rfl fun a h=>wpList_nil ?_
       replace h : Fr 119 a [(4, _)] := h.keep [4]
       refine x_then_n (hKJ_5 _ _ ?_)
       refine wp_ret (x_block_r (x_then_r ?_))
       obtain rfl := Option.some.inj H
       exact r1 h 4 rfl rfl ⟨_, rfl, Mem.no, rfl, (hS.sel [0] (by decide))⟩
     ·refine c_cond_f h rfl (bf hc_11) <| qr <| s_cmp (b := (x0.Kind == 8)) h rfl rfl rfl (.inl ⟨rfl, rfl⟩) fun a h=>sg h rfl fun a h=>wpList_nil ?_
      replace h : Fr 119 a [(2, _), (3, _), (4, _), (105, .bool (x0.Kind == 8))] := h.keep [2, 3, 4, 105]
      refine x_then_n ?_
      obtain ⟨hc_15, H⟩ | ⟨hc_15, H⟩ := ii H
      ·refine c_cond_t h rfl (bt hc_15) <| c_seq fun KJ_6 hKJ_6 => wp_region_lit <| s_fieldAddr h rfl U32 rfl ti3 rfl rfl fun a h=>s_load h rfl rfl (hS.load_one (p := 1) rfl U3 rfl rfl) fun a h=>s_fieldAddr h rfl U32 rfl ti3 rfl rfl fun a h=>s_load h rfl rfl (hS.load_one (p := 2) rfl U3 rfl rfl) fun a h=>s_cmp (b := (x0.Index == x1.Index)) h rfl rfl rfl (.inl ⟨rfl, rfl⟩) fun a h=>mv h rfl fun a h=>?_
       obtain ⟨hc_16, H⟩ | ⟨hc_16, H⟩ := ii H
       ·refine s_on h rfl rfl (bt hc_16) <| s_fieldAddr h rfl U32 rfl ti30 rfl rfl fun a h=>s_on h rfl rfl (bt hc_16) <| s_load h rfl rfl (hS.load_agg (p := 1) (us := (E30 x0.Entry p0_3 p0_4 p0_5)) rfl U30 rfl ti30 rfl rfl) fun a h=>s_on h rfl rfl (bt hc_16) <| s_fieldAddr h rfl U32 rfl ti30 rfl rfl fun a h=>s_on h rfl rfl (bt hc_16) <| s_load h rfl rfl (hS.load_agg (p := 2) (us := (E30 x1.Entry p1_9 p1_10 p1_11)) rfl U30 rfl ti30 rfl rfl) fun a h=>s_on h rfl rfl (bt hc_16) ?_
        obtain ⟨t_4, et_4, H⟩ := bs H
        refine s_call h rfl Try.call83 rfl (mach_SameEntry.calls x0.Entry _ _ _ x1.Entry _ _ _ t_4 w0 _ _ _ mr (hS.enter [] (by decide)) (hp0_3.mono (hA.trans (hS.le_zed []))) (hp0_4.mono (hA.trans (hS.le_zed []))) (hp0_5.mono (hA.trans (hS.le_zed []))) (hp1_9.mono (hA.trans (hS.le_zed []))) (hp1_10.mono (hA.trans (hS.le_zed []))) (hp1_11.mono (hA.trans (hS.le_zed []))) et_4) ?_
        rintro _ w_6 ⟨N_7, rfl, hS'⟩
        intro a h
        obtain ⟨N_8, hS'', le_4, ln_4⟩ := hS.call [] (by decide) rfl (l' := []) (ow := []) rfl hS'
        replace hS : Sep w0 w_6 [N_8, _, _] Z := hS''
        refine pt h rfl (bt hc_16) fun a h=>sg h rfl fun a h=>wpList_nil <| x_then_n (hKJ_6 _ _ ?_)
        refine wp_ret (x_block_r (x_then_r ?_))
        obtain rfl := Option.some.inj H
        exact r1 h 4 rfl rfl ⟨_, rfl, N_8, rfl, (hS.sel [0] (by decide))⟩
       ·refine of h rfl rfl (bf hc_16) fun a h=>of h rfl rfl (bf hc_16) fun a h=>of h rfl rfl (bf hc_16) fun a h=>of h rfl rfl (bf hc_16) fun a h=>of h rfl rfl (bf hc_16) fun a h=>pf h rfl (bf hc_16) fun a h=>sg h rfl fun a h=>wpList_nil <| x_then_n (hKJ_6 _ _ ?_)
        refine wp_ret (x_block_r (x_then_r ?_))
        obtain rfl := Option.some.inj H
        exact r1 h 4 rfl rfl ⟨_, rfl, Mem.no, rfl, (hS.sel [0] (by decide))⟩
      ·refine c_cond_f h rfl (bf hc_15) <| wp_skip <| x_block_n <| x_then_n (hKJ_1 _ _ ?_)
       refine qr <| sg h rfl fun a h=>nx <| wp_ret ?_
       obtain rfl := Option.some.inj H
       exact r1 h 4 rfl rfl ⟨_, rfl, Mem.no, rfl, (hS.sel [0] (by decide))⟩

set_option maxHeartbeats 4000000 in
set_option maxRecDepth 20000 in
theorem mesg_alike.calls (K : Nat) (x0 : api_Msg) (p0_0 : Value) (p0_1 : Value) (p0_2 : Value) (p0_3 : Value) (p0_4 : Value) (p0_5 : Value) (x1 : api_Msg) (p1_6 : Value) (p1_7 : Value) (p1_8 : Value) (p1_9 : Value) (p1_10 : Value) (p1_11 : Value) (r : Bool) (w0 w : World) (Z A : Mem) (hA : A.le Z) (hS : Sep w0 w [] Z) (hp0_0 : Rd Kd.u8 A p0_0 x0.Data) (hp0_1 : Rd (Kd.int .i64) A p0_1 x0.Have) (hp0_2 : Rd (Kd.int .i64) A p0_2 x0.Need) (hp0_3 : Rd Kd.u8 A p0_3 x0.Entry.Cmd.Key) (hp0_4 : Rd Kd.u8 A p0_4 x0.Entry.Cmd.Val) (hp0_5 : Rd Kd.u8 A p0_5 x0.Entry.Cmd.Old) (hp1_6 : Rd Kd.u8 A p1_6 x1.Data) (hp1_7 : Rd (Kd.int .i64) A p1_7 x1.Have) (hp1_8 : Rd (Kd.int .i64) A p1_8 x1.Need) (hp1_9 : Rd Kd.u8 A p1_9 x1.Entry.Cmd.Key) (hp1_10 : Rd Kd.u8 A p1_10 x1.Entry.Cmd.Val) (hp1_11 : Rd Kd.u8 A p1_11 x1.Entry.Cmd.Old)
    (H : mesg_alike.f K x0 x1 = some r) :
    Calls Try.prog 58 [.agg (E32 x0 p0_0 p0_1 p0_2 p0_3 p0_4 p0_5).toArray, .agg (E32 x1 p1_6 p1_7 p1_8 p1_9 p1_10 p1_11).toArray].toArray w (Ret fun v w' => ∃ (N : Mem), v = .bool r ∧ Sep w0 w' [N] Z) := by
 unfold mesg_alike.f at H
 refine f_enter _ Try.func58 rfl Try.ntmps58 rfl fun a h=>?_
 replace h : Fr 36 a [(0, .agg (E32 x0 p0_0 p0_1 p0_2 p0_3 p0_4 p0_5).toArray), (1, .agg (E32 x1 p1_6 p1_7 p1_8 p1_9 p1_10 p1_11).toArray)] := h
 replace hS := hS.start
 refine qr <| v_box (vs := (E32 x0 p0_0 p0_1 p0_2 p0_3 p0_4 p0_5)) h rfl rfl rfl hS fun w_1 g_1 hS' a h => ?_
 replace hS : Sep w0 w_1 [_, bx g_1 32 (E32 x0 p0_0 p0_1 p0_2 p0_3 p0_4 p0_5)] Z := hS'
 refine v_box (vs := (E32 x1 p1_6 p1_7 p1_8 p1_9 p1_10 p1_11)) h rfl rfl rfl hS fun w_2 g_2 hS' a h => ?_
 replace hS : Sep w0 w_2 [_, _, bx g_2 32 (E32 x1 p1_6 p1_7 p1_8 p1_9 p1_10 p1_11)] Z := hS'
 refine sg h rfl fun a h=>nx <| c_seq fun KJ_1 hKJ_1 => wp_region_lit <| s_fieldAddr h rfl U32 rfl ti3 rfl rfl fun a h=>s_load h rfl rfl (hS.load_one (p := 1) rfl U3 rfl rfl) fun a h=>s_fieldAddr h rfl U32 rfl ti3 rfl rfl fun a h=>s_load h rfl rfl (hS.load_one (p := 2) rfl U3 rfl rfl) fun a h=>s_cmp (b := (x0.Kind == x1.Kind)) h rfl rfl rfl (.inl ⟨rfl, rfl⟩) fun a h=>mv h rfl fun a h=>?_
 obtain ⟨hc_1, H⟩ | ⟨hc_1, H⟩ := ii H
 ·refine s_on h rfl rfl (bt hc_1) <| s_fieldAddr h rfl U32 rfl ti3 rfl rfl fun a h=>s_on h rfl rfl (bt hc_1) <| s_load h rfl rfl (hS.load_one (p := 1) rfl U3 rfl rfl) fun a h=>s_on h rfl rfl (bt hc_1) <| s_fieldAddr h rfl U32 rfl ti3 rfl rfl fun a h=>s_on h rfl rfl (bt hc_1) <| s_load h rfl rfl (hS.load_one (p := 2) rfl U3 rfl rfl) fun a h=>s_on h rfl rfl (bt hc_1) <| s_cmp (b := (x0.From == x1.From)) h rfl rfl rfl (.inl ⟨rfl, rfl⟩) fun a h=>pt h rfl (bt hc_1) fun a h=>mv h rfl fun a h=>?_
  obtain ⟨hc_2, H⟩ | ⟨hc_2, H⟩ := ii H
  ·refine s_on h rfl rfl (bt hc_2) <| s_fieldAddr h rfl U32 rfl ti3 rfl rfl fun a h=>s_on h rfl rfl (bt hc_2) <| s_load h rfl rfl (hS.load_one (p := 1) rfl U3 rfl rfl) fun a h=>s_on h rfl rfl (bt hc_2) <| s_fieldAddr h rfl U32 rfl ti3 rfl rfl fun a h=>s_on h rfl rfl (bt hc_2) <| s_load h rfl rfl (hS.load_one (p := 2) rfl U3 rfl rfl) fun a h=>s_on h rfl rfl (bt hc_2) <| s_cmp (b := (x0.To == x1.To)) h rfl rfl rfl (.inl ⟨rfl, rfl⟩) fun a h=>pt h rfl (bt hc_2) fun a h=>mv h rfl fun a h=>?_
   obtain ⟨hc_3, H⟩ | ⟨hc_3, H⟩ := ii H
   ·refine s_on h rfl rfl (bt hc_3) <| s_fieldAddr h rfl U32 rfl ti3 rfl rfl fun a h=>s_on h rfl rfl (bt hc_3) <| s_load h rfl rfl (hS.load_one (p := 1) rfl U3 rfl rfl) fun a h=>s_on h rfl rfl (bt hc_3) <| s_fieldAddr h rfl U32 rfl ti3 rfl rfl fun a h=>s_on h rfl rfl (bt hc_3) <| s_load h rfl rfl (hS.load_one (p := 2) rfl U3 rfl rfl) fun a h=>s_on h rfl rfl (bt hc_3) <| s_cmp (b := (x0.View == x1.View)) h rfl rfl rfl (.inl ⟨rfl, rfl⟩) fun a h=>pt h rfl (bt hc_3) fun a h=>mv h rfl fun a h=>?_
    obtain ⟨hc_4, H⟩ | ⟨hc_4, H⟩ := ii H
    ·refine s_on h rfl rfl (bt hc_4) <| s_load h rfl rfl (hS.load_agg (p := 1) (us := (E32 x0 p0_0 p0_1 p0_2 p0_3 p0_4 p0_5)) rfl U32 rfl ti32 rfl rfl) fun a h=>s_on h rfl rfl (bt hc_4) <| s_load h rfl rfl (hS.load_agg (p := 2) (us := (E32 x1 p1_6 p1_7 p1_8 p1_9 p1_10 p1_11)) rfl U32 rfl ti32 rfl rfl) fun a h=>s_on h rfl rfl (bt hc_4) ?_
     obtain ⟨t_1, et_1, H⟩ := bs H
     refine s_call h rfl Try.call75 rfl (mesg_fields.calls K x0 _ _ _ _ _ _ x1 _ _ _ _ _ _ t_1 w0 _ _ _ mr (hS.enter [] (by decide)) (hp0_0.mono (hA.trans (hS.le_zed []))) (hp0_1.mono (hA.trans (hS.le_zed []))) (hp0_2.mono (hA.trans (hS.le_zed []))) (hp0_3.mono (hA.trans (hS.le_zed []))) (hp0_4.mono (hA.trans (hS.le_zed []))) (hp0_5.mono (hA.trans (hS.le_zed []))) (hp1_6.mono (hA.trans (hS.le_zed []))) (hp1_7.mono (hA.trans (hS.le_zed []))) (hp1_8.mono (hA.trans (hS.le_zed []))) (hp1_9.mono (hA.trans (hS.le_zed []))) (hp1_10.mono (hA.trans (hS.le_zed []))) (hp1_11.mono (hA.trans (hS.le_zed []))) et_1) ?_
     rintro _ w_3 ⟨N_1, rfl, hS'⟩
     intro a h
     obtain ⟨N_2, hS'', le_1, ln_1⟩ := hS.call [] (by decide) rfl (l' := []) (ow := []) rfl hS'
     replace hS : Sep w0 w_3 [N_2, _, _] Z := hS''
     refine pt h rfl (bt hc_4) fun a h=>sg h rfl fun a h=>wpList_nil <| x_then_n (hKJ_1 _ _ ?_)
     refine wp_ret ?_
     obtain rfl := Option.some.inj H
     exact r1 h 4 rfl rfl ⟨_, rfl, N_2, rfl, (hS.sel [0] (by decide))⟩
    ·refine of h rfl rfl (bf hc_4) fun a h=>of h rfl rfl (bf hc_4) fun a h=>of h rfl rfl (bf hc_4) fun a h=>pf h rfl (bf hc_4) fun a h=>sg h rfl fun a h=>wpList_nil <| x_then_n (hKJ_1 _ _ ?_)
     refine wp_ret ?_
     obtain rfl := Option.some.inj H
     exact r1 h 4 rfl rfl ⟨_, rfl, Mem.no, rfl, (hS.sel [0] (by decide))⟩
   ·refine of h rfl rfl (bf hc_3) fun a h=>of h rfl rfl (bf hc_3) fun a h=>of h rfl rfl (bf hc_3) fun a h=>of h rfl rfl (bf hc_3) fun a h=>of h rfl rfl (bf hc_3) fun a h=>pf h rfl (bf hc_3) fun a h=>mv h rfl fun a h=>oo h rfl rfl fun a h=>oo h rfl rfl fun a h=>oo h rfl rfl fun a h=>pf h rfl rfl fun a h=>sg h rfl fun a h=>?_
    refine wpList_nil <| x_then_n (hKJ_1 _ _ ?_)
    refine wp_ret ?_
    obtain rfl := Option.some.inj H
    exact r1 h 4 rfl rfl ⟨_, rfl, Mem.no, rfl, (hS.sel [0] (by decide))⟩
  ·refine of h rfl rfl (bf hc_2) fun a h=>of h rfl rfl (bf hc_2) fun a h=>of h rfl rfl (bf hc_2) fun a h=>of h rfl rfl (bf hc_2) fun a h=>of h rfl rfl (bf hc_2) fun a h=>pf h rfl (bf hc_2) fun a h=>mv h rfl fun a h=>oo h rfl rfl fun a h=>oo h rfl rfl fun a h=>oo h rfl rfl fun a h=>oo h rfl rfl fun a h=>oo h rfl rfl fun a h=>?_
   refine pf h rfl rfl fun a h=>mv h rfl fun a h=>oo h rfl rfl fun a h=>oo h rfl rfl fun a h=>oo h rfl rfl fun a h=>pf h rfl rfl fun a h=>sg h rfl fun a h=>wpList_nil <| x_then_n (hKJ_1 _ _ ?_)
   refine wp_ret ?_
   obtain rfl := Option.some.inj H
   exact r1 h 4 rfl rfl ⟨_, rfl, Mem.no, rfl, (hS.sel [0] (by decide))⟩
 ·refine of h rfl rfl (bf hc_1) fun a h=>of h rfl rfl (bf hc_1) fun a h=>of h rfl rfl (bf hc_1) fun a h=>of h rfl rfl (bf hc_1) fun a h=>of h rfl rfl (bf hc_1) fun a h=>pf h rfl (bf hc_1) fun a h=>mv h rfl fun a h=>oo h rfl rfl fun a h=>oo h rfl rfl fun a h=>oo h rfl rfl fun a h=>oo h rfl rfl fun a h=>oo h rfl rfl fun a h=>?_
  refine pf h rfl rfl fun a h=>mv h rfl fun a h=>oo h rfl rfl fun a h=>oo h rfl rfl fun a h=>oo h rfl rfl fun a h=>oo h rfl rfl fun a h=>oo h rfl rfl fun a h=>pf h rfl rfl fun a h=>mv h rfl fun a h=>oo h rfl rfl fun a h=>oo h rfl rfl fun a h=>oo h rfl rfl fun a h=>?_
  refine pf h rfl rfl fun a h=>sg h rfl fun a h=>wpList_nil <| x_then_n (hKJ_1 _ _ ?_)
  refine wp_ret ?_
  obtain rfl := Option.some.inj H
  exact r1 h 4 rfl rfl ⟨_, rfl, Mem.no, rfl, (hS.sel [0] (by decide))⟩

set_option maxHeartbeats 4000000 in
set_option maxRecDepth 20000 in
theorem crcs_Next.calls (K : Nat) (x0 : UInt32) (x1 : UInt8) (r : UInt32) (w0 w : World) (Z A : Mem) (hA : A.le Z) (hS : Sep w0 w [] Z)
    (H : crcs_Next.f K x0 x1 = some r) :
    Calls Try.prog 76 [.int .u32 (x0.toNat : Int), .int .u8 (x1.toNat : Int)].toArray w (Ret fun v w' => ∃ (N : Mem), v = .int .u32 (r.toNat : Int) ∧ Sep w0 w' [N] Z) := by
 unfold crcs_Next.f at H
 refine f_enter _ Try.func76 rfl Try.ntmps76 rfl fun a h=>?_
 replace h : Fr 22 a [(0, .int .u32 (x0.toNat : Int)), (1, .int .u8 (x1.toNat : Int))] := h
 replace hS := hS.start
 refine qr <| sg h rfl fun a h=>nx <| qr <| mv h rfl fun a h=>mv h rfl fun a h=>s_conv (((toU32 (x1.toNat : Int)).toNat : Int)) h rfl U5 U71 rfl (wrap_u32 _).symm fun a h=>s_bits (i := (x0.toNat : Int)) (j := ((toU32 (x1.toNat : Int)).toNat : Int)) (r := ((x0 ^^^ (toU32 (x1.toNat : Int))).toNat : Int)) h rfl rfl rfl (.inr (.inr (.inl ⟨rfl, (bxor32 _ _).symm⟩))) fun a h=>sg h rfl fun a h=>?_
 refine nx <| c_seq fun KJ_1 hKJ_1 => qr <| mv h rfl fun a h=>wpList_nil <| x_then_n ?_
 have hJ_j_1 : ∀ (x_1 : UInt32), crcs_Next.J1 K x_1 = some r → ∀ (a : Act) (w_1 : World), (∃ (N_1 : Mem), Fr 22 a [(0, .int .u32 (x_1.toNat : Int)), (4, .int .u32 ((0 : UInt32).toNat : Int))] ∧ Sep w0 w_1 [N_1] Z ∧ Mem.no.le N_1) → KJ_1 a w_1 := by
  clear H h hS a
  rintro x_1 H a w_1 ⟨N_1, h, hS, le_1⟩
  unfold crcs_Next.J1 at H
  refine hKJ_1 _ _ <| qr <| mv h rfl fun a h=>sg h rfl fun a h=>wpList_nil ?_
  replace h : Fr 22 a [(4, .int .u32 (x_1.toNat : Int))] := h.keep [4]
  refine x_then_n <| wp_ret ?_
  obtain rfl := Option.some.inj H
  exact r1 h 4 rfl rfl ⟨_, rfl, N_1, rfl, (hS.sel [0] (by decide))⟩
 clear hKJ_1
 refine c_block <| c_loop (fun k_1 a w_2 => ∃ (x_2 : UInt32) (x_3 : Int) (N_2 : Mem), crcs_Next.L1 K (fun v => crcs_Next.J1 K v) k_1 (x_2, x_3) = some r ∧ Fr 22 a [(0, .int .u32 (x_2.toNat : Int)), (4, .int .u32 ((0 : UInt32).toNat : Int)), (10, iV x_3)] ∧ Sep w0 w_2 [N_2] Z ∧ Mem.no.le N_2) K ⟨x0 ^^^ (toU32 (x1.toNat : Int)), 0, Mem.no, H, (h.keep [0, 4, 10]), (hS.sel [0] (by decide)), mr⟩ (fun a w h => by obtain ⟨_, _, _, H, _⟩ := h; cases (show (none : Option (UInt32)) = some r from H)) ?_
 clear h hS a H
 rintro k_1 a w_2 KL_1 hKL_1 ⟨x_2, x_3, N_2, H, h, hS, le_2⟩
 replace H : crcs_Next.B1 K (fun v => crcs_Next.J1 K v) (crcs_Next.L1 K (fun v => crcs_Next.J1 K v) k_1) x_2 x_3 = some r := H
 unfold crcs_Next.B1 at H
 refine qr <| s_cmp (b := decide (x_3 < 8)) h rfl rfl rfl (.inr (.inr (.inl ⟨rfl, rfl⟩))) fun a h=>wpList_nil ?_
 replace h : Fr 22 a [(0, _), (4, _), (10, _), (11, .bool (decide (x_3 < 8)))] := h.keep [0, 4, 10, 11]
 refine x_then_n <| c_seq fun KJ_2 hKJ_2 => ?_
 obtain ⟨hc_1, H⟩ | ⟨hc_1, H⟩ := ii H
 ·refine c_cond_t h rfl (dt hc_1) <| wp_skip <| x_then_n (hKJ_2 _ _ ?_)
  refine c_seq fun KJ_3 hKJ_3 => c_block <| qr <| mv h rfl fun a h=>s_bits (i := (x_2.toNat : Int)) (j := ((1 : UInt32).toNat : Int)) (r := ((x_2 &&& (1 : UInt32)).toNat : Int)) h rfl rfl rfl (.inl ⟨rfl, (band32 _ _).symm⟩) fun a h=>sg h rfl fun a h=>nx <| qr <| mv h rfl fun a h=>?_
  refine s_shift (r := ((toU32 (shr .u32 (x_2.toNat : Int) 1)).toNat : Int)) h rfl rfl rfl (by decide) (.inr ⟨rfl, (shr32 _ _).symm⟩) fun a h=>sg h rfl fun a h=>nx <| qr <| mv h rfl fun a h=>s_cmp (b := (((x_2 &&& (1 : UInt32)).toNat : Int) == ((1 : UInt32).toNat : Int))) h rfl rfl rfl (.inl ⟨rfl, rfl⟩) fun a h=>wpList_nil <| x_then_n ?_
  obtain ⟨hc_2, H⟩ | ⟨hc_2, H⟩ := ii H
  ·refine c_cond_t h rfl (bt hc_2) <| wp_region_lit <| mv h rfl fun a h=>s_bits (i := ((toU32 (shr .u32 (x_2.toNat : Int) 1)).toNat : Int)) (j := ((3988292384 : UInt32).toNat : Int)) (r := (((toU32 (shr .u32 (x_2.toNat : Int) 1)) ^^^ (3988292384 : UInt32)).toNat : Int)) h rfl rfl rfl (.inr (.inr (.inl ⟨rfl, (bxor32 _ _).symm⟩))) fun a h=>sg h rfl fun a h=>wpList_nil ?_
   replace h : Fr 22 a [(0, .int .u32 (((toU32 (shr .u32 (x_2.toNat : Int) 1)) ^^^ (3988292384 : UInt32)).toNat : Int)), (4, _), (10, _)] := h.keep [0, 4, 10]
   refine x_block_n <| x_then_n (hKJ_3 _ _ ?_)
   refine wp_region_lit <| s_arith (r := w64 (x_3 + 1)) h rfl rfl rfl (.inl ⟨rfl, rfl⟩) fun a h=>mv h rfl fun a h=>wpList_nil <| x_then_n (hKL_1 _ _ ?_)
   exact ⟨(toU32 (shr .u32 (x_2.toNat : Int) 1)) ^^^ (3988292384 : UInt32), w64 (x_3 + 1), N_2, H, (h.keep [0, 4, 10]), (hS.sel [0] (by decide)), le_2⟩
  ·refine c_cond_f h rfl (bf hc_2) <| wp_skip <| x_block_n <| x_then_n (hKJ_3 _ _ ?_)
   refine wp_region_lit <| s_arith (r := w64 (x_3 + 1)) h rfl rfl rfl (.inl ⟨rfl, rfl⟩) fun a h=>mv h rfl fun a h=>wpList_nil ?_
   replace h : Fr 22 a [(0, .int .u32 ((toU32 (shr .u32 (x_2.toNat : Int) 1)).toNat : Int)), (4, _), (10, iV (w64 (x_3 + 1)))] := h.keep [0, 4, 10]
   refine x_then_n (hKL_1 _ _ ?_)
   exact ⟨toU32 (shr .u32 (x_2.toNat : Int) 1), w64 (x_3 + 1), N_2, H, (h.keep [0, 4, 10]), (hS.sel [0] (by decide)), le_2⟩
 ·refine c_cond_f h rfl (df hc_1) <| wp_exit (x_then_x (x_then_x (x_block_t ?_)))
  exact x_then_n (hJ_j_1 x_2 H _ _ ⟨N_2, (h.keep [0, 4]), (hS.sel [0] (by decide)), le_2⟩)

set_option maxHeartbeats 4000000 in
set_option maxRecDepth 20000 in
theorem crcs_Sum.calls (K : Nat) (x0 : List UInt8) (p0_0 : Value) (r : UInt32) (w0 w : World) (Z A : Mem) (hA : A.le Z) (hS : Sep w0 w [] Z) (hp0_0 : Rd Kd.u8 A p0_0 x0)
    (H : crcs_Sum.f K x0 = some r) :
    Calls Try.prog 59 [p0_0].toArray w (Ret fun v w' => ∃ (N : Mem), v = .int .u32 (r.toNat : Int) ∧ Sep w0 w' [N] Z) := by
 unfold crcs_Sum.f at H
 refine f_enter _ Try.func59 rfl Try.ntmps59 rfl fun a h=>?_
 replace h : Fr 18 a [(0, p0_0)] := h
 replace hS := hS.start
 refine qr <| sg h rfl fun a h=>nx <| qr <| sg h rfl fun a h=>nx <| c_seq fun KJ_1 hKJ_1 => wp_seq <| wp_region_lit ?_
 refine mv h rfl fun a h=>s_len h rfl U26 rfl hp0_0 fun a h=>mv h rfl fun a h=>wpList_nil <| x_then_n ?_
 have hJ_j_1 : ∀ (x_1 : UInt32), crcs_Sum.J1 K x_1 = some r → ∀ (a : Act) (w_1 : World), (∃ (N_1 : Mem), Fr 18 a [(2, .int .u32 ((0 : UInt32).toNat : Int)), (3, .int .u32 (x_1.toNat : Int))] ∧ Sep w0 w_1 [N_1] Z ∧ Mem.no.le N_1) → KJ_1 a w_1 := by
  clear H h hS a
  rintro x_1 H a w_1 ⟨N_1, h, hS, le_1⟩
  unfold crcs_Sum.J1 at H
  refine hKJ_1 _ _ <| qr <| mv h rfl fun a h=>s_bits (i := (x_1.toNat : Int)) (j := ((4294967295 : UInt32).toNat : Int)) (r := ((x_1 ^^^ (4294967295 : UInt32)).toNat : Int)) h rfl rfl rfl (.inr (.inr (.inl ⟨rfl, (bxor32 _ _).symm⟩))) fun a h=>sg h rfl fun a h=>wpList_nil ?_
  replace h : Fr 18 a [(2, .int .u32 ((x_1 ^^^ (4294967295 : UInt32)).toNat : Int))] := h.keep [2]
  refine x_then_n <| wp_ret ?_
  obtain rfl := Option.some.inj H
  exact r1 h 2 rfl rfl ⟨_, rfl, N_1, rfl, (hS.sel [0] (by decide))⟩
 clear hKJ_1
 refine c_block <| c_loop (fun k_1 a w_2 => ∃ (x_2 : UInt32) (x_3 : Int) (N_2 : Mem), crcs_Sum.L1 K x0 (fun v => crcs_Sum.J1 K v) k_1 (x_2, x_3) = some r ∧ Fr 18 a [(2, .int .u32 ((0 : UInt32).toNat : Int)), (3, .int .u32 (x_2.toNat : Int)), (6, p0_0), (7, iV (x0.length : Int)), (8, iV x_3)] ∧ Sep w0 w_2 [N_2] Z ∧ Mem.no.le N_2) K ⟨(4294967295 : UInt32), 0, Mem.no, H, (h.keep [2, 3, 6, 7, 8]), (hS.sel [0] (by decide)), mr⟩ (fun a w h => by obtain ⟨_, _, _, H, _⟩ := h; cases (show (none : Option (UInt32)) = some r from H)) ?_
 clear h hS a H
 rintro k_1 a w_2 KL_1 hKL_1 ⟨x_2, x_3, N_2, H, h, hS, le_2⟩
 replace H : crcs_Sum.B1 K x0 (fun v => crcs_Sum.J1 K v) (crcs_Sum.L1 K x0 (fun v => crcs_Sum.J1 K v) k_1) x_2 x_3 = some r := H
 unfold crcs_Sum.B1 at H
 refine qr <| s_cmp (b := decide (x_3 < (x0.length : Int))) h rfl rfl rfl (.inr (.inr (.inl ⟨rfl, rfl⟩))) fun a h=>wpList_nil ?_
 replace h : Fr 18 a [(2, _), (3, _), (6, _), (7, _), (8, _), (9, .bool (decide (x_3 < (x0.length : Int))))] := h.keep [2, 3, 6, 7, 8, 9]
 refine x_then_n <| c_seq fun KJ_2 hKJ_2 => ?_
 obtain ⟨hc_1, H⟩ | ⟨hc_1, H⟩ := ii H
 ·refine c_cond_t h rfl (dt hc_1) <| wp_skip <| x_then_n (hKJ_2 _ _ ?_)
  refine wp_seq <| c_block <| wp_seq <| wp_region_lit ?_
  obtain ⟨t_1, et_1, H⟩ := bs H
  refine v_index h rfl U26 ti5 rfl rfl rfl hp0_0 (hA.trans hS.old) et_1 fun ad_1 cs_1 hk_1 hc_2 => ?_
  obtain rfl := (show cs_1 = [.int .u8 (t_1.toNat : Int)] from hk_1)
  intro a h
  refine s_load h rfl rfl (el_one (o := 0) hc_2 U5 rfl rfl) fun a h=>sg h rfl fun a h=>nx <| wp_region_lit <| mv h rfl fun a h=>mv h rfl fun a h=>?_
  obtain ⟨t_2, et_2, H⟩ := bs H
  refine s_call h rfl Try.call76 rfl (crcs_Next.calls K x_2 t_1 t_2 w0 _ _ _ mr (hS.enter [] (by decide))  et_2) ?_
  rintro _ w_3 ⟨N_3, rfl, hS'⟩
  intro a h
  obtain ⟨N_4, hS'', le_3, ln_1⟩ := hS.call [] (by decide) rfl (l' := []) (ow := []) rfl hS'
  replace hS : Sep w0 w_3 [N_4] Z := hS''
  refine sg h rfl fun a h=>wpList_nil <| x_block_n <| x_then_n <| wp_region_lit <| s_arith (r := w64 (x_3 + 1)) h rfl rfl rfl (.inl ⟨rfl, rfl⟩) fun a h=>mv h rfl fun a h=>wpList_nil <| x_then_n (hKL_1 _ _ ?_)
  exact ⟨t_2, w64 (x_3 + 1), N_4, H, (h.keep [2, 3, 6, 7, 8]), (hS.sel [0] (by decide)), (le_2.trans le_3)⟩
 ·refine c_cond_f h rfl (df hc_1) <| wp_exit (x_then_x (x_then_x (x_block_t ?_)))
  exact x_then_n (hJ_j_1 x_2 H _ _ ⟨N_2, (h.keep [2, 3]), (hS.sel [0] (by decide)), le_2⟩)

set_option maxHeartbeats 4000000 in
set_option maxRecDepth 20000 in
theorem fram_Sealed.calls (K : Nat) (x0 : List UInt8) (p0_0 : Value) (r : (List UInt8)) (w0 w : World) (Z A : Mem) (hA : A.le Z) (hS : Sep w0 w [] Z) (hp0_0 : Rd Kd.u8 A p0_0 x0)
    (H : fram_Sealed.f K x0 = some r) :
    Calls Try.prog 42 [p0_0].toArray w (Ret fun v w' => ∃ (u0 : Value) (N : Mem) (M0 : Mem), v = u0 ∧ Sep w0 w' [N, M0] Z ∧ Own Kd.u8 5 M0 Mem.no u0 r) := by
 unfold fram_Sealed.f at H
 refine f_enter _ Try.func42 rfl Try.ntmps42 rfl fun a h=>?_
 replace h : Fr 22 a [(0, p0_0)] := h
 replace hS := hS.start
 refine qr <| sg h rfl fun a h=>nx <| qr <| mv h rfl fun a h=>?_
 obtain ⟨t_1, et_1, H⟩ := bs H
 refine s_call h rfl Try.call59 rfl (crcs_Sum.calls K x0 _ t_1 w0 _ _ _ mr (hS.enter [] (by decide)) (hp0_0.mono (hA.trans (hS.le_zed []))) et_1) ?_
 rintro _ w_1 ⟨N_1, rfl, hS'⟩
 intro a h
 obtain ⟨N_2, hS'', le_1, ln_1⟩ := hS.call [] (by decide) rfl (l' := []) (ow := []) rfl hS'
 replace hS : Sep w0 w_1 [N_2] Z := hS''
 refine sg h rfl fun a h=>nx <| qr <| mv h rfl fun a h=>s_conv (((toU8 (t_1.toNat : Int)).toNat : Int)) h rfl U71 U5 rfl (wrap_u8 _).symm fun a h=>mv h rfl fun a h=>s_shift (r := ((toU32 (shr .u32 (t_1.toNat : Int) 8)).toNat : Int)) h rfl rfl rfl (by decide) (.inr ⟨rfl, (shr32 _ _).symm⟩) fun a h=>s_conv (((toU8 ((toU32 (shr .u32 (t_1.toNat : Int) 8)).toNat : Int)).toNat : Int)) h rfl U71 U5 rfl (wrap_u8 _).symm fun a h=>mv h rfl fun a h=>s_shift (r := ((toU32 (shr .u32 (t_1.toNat : Int) 16)).toNat : Int)) h rfl rfl rfl (by decide) (.inr ⟨rfl, (shr32 _ _).symm⟩) fun a h=>?_
 refine s_conv (((toU8 ((toU32 (shr .u32 (t_1.toNat : Int) 16)).toNat : Int)).toNat : Int)) h rfl U71 U5 rfl (wrap_u8 _).symm fun a h=>mv h rfl fun a h=>s_shift (r := ((toU32 (shr .u32 (t_1.toNat : Int) 24)).toNat : Int)) h rfl rfl rfl (by decide) (.inr ⟨rfl, (shr32 _ _).symm⟩) fun a h=>s_conv (((toU8 ((toU32 (shr .u32 (t_1.toNat : Int) 24)).toNat : Int)).toNat : Int)) h rfl U71 U5 rfl (wrap_u8 _).symm fun a h=>?_
 have hq_1 : Reps Kd.u8 Mem.no ([toU8 (t_1.toNat : Int), toU8 ((toU32 (shr .u32 (t_1.toNat : Int) 8)).toNat : Int), toU8 ((toU32 (shr .u32 (t_1.toNat : Int) 16)).toNat : Int), toU8 ((toU32 (shr .u32 (t_1.toNat : Int) 24)).toNat : Int)] : List UInt8) _ := ((Reps.one (d := Kd.u8) (x := toU8 (t_1.toNat : Int)) (show Kd.u8.K _ _ [.int .u8 ((toU8 (t_1.toNat : Int)).toNat : Int)] from rfl)).append ((Reps.one (d := Kd.u8) (x := toU8 ((toU32 (shr .u32 (t_1.toNat : Int) 8)).toNat : Int)) (show Kd.u8.K _ _ [.int .u8 ((toU8 ((toU32 (shr .u32 (t_1.toNat : Int) 8)).toNat : Int)).toNat : Int)] from rfl)).append ((Reps.one (d := Kd.u8) (x := toU8 ((toU32 (shr .u32 (t_1.toNat : Int) 16)).toNat : Int)) (show Kd.u8.K _ _ [.int .u8 ((toU8 ((toU32 (shr .u32 (t_1.toNat : Int) 16)).toNat : Int)).toNat : Int)] from rfl)).append ((Reps.one (d := Kd.u8) (x := toU8 ((toU32 (shr .u32 (t_1.toNat : Int) 24)).toNat : Int)) (show Kd.u8.K _ _ [.int .u8 ((toU8 ((toU32 (shr .u32 (t_1.toNat : Int) 24)).toNat : Int)).toNat : Int)] from rfl)).append (Reps.nil Kd.u8 _)))))
 refine s_buildSlice h rfl U26 ti5 rfl rfl rfl (.cons rfl (.cons rfl (.cons rfl (.cons rfl .nil)))) rfl rfl rfl hS hq_1 rfl fun w_2 v_1 M_1 hS' ho_1 a h => ?_
 replace hS : Sep w0 w_2 [_, M_1] Z := hS'
 refine sg h rfl fun a h=>nx <| qr <| mv h rfl fun a h=>mv h rfl fun a h=>?_
 obtain ⟨t_2, et_2, H⟩ := bs H
 refine s_append (J := Mem.no) (I' := Mem.no) (p := 1) 140737488355328 h rfl rfl rfl U26 ti5 rfl rfl rfl rfl hS rfl ho_1 (Src.flat flat_u8 (hp0_0.src (hA.trans hS.old))) mr mr et_2 fun w_3 v_2 M_2 hS' ho_2 a h => ?_
 replace hS : Sep w0 w_3 [_, M_2] Z := hS'
 refine sg h rfl fun a h=>wpList_nil ?_
 replace h : Fr 22 a [(2, v_2)] := h.keep [2]
 refine x_then_n <| wp_ret ?_
 obtain rfl := Option.some.inj H
 exact r1 h 2 rfl rfl ⟨_, rfl, v_2, N_2, M_2, rfl, (hS.sel [0, 1] (by decide)), ho_2⟩

set_option maxHeartbeats 4000000 in
set_option maxRecDepth 20000 in
theorem nets_Net_room.calls (g0 : Nat) (x0_n : Int) (x0_mask : Int) (x0_l : List nets_frame) (p0_0 : Value) (r : Bool) (w0 w : World) (Z A : Mem) (hA : A.le Z) (hS : Sep w0 w [bx g0 58 [iV x0_n, iV x0_mask, p0_0]] Z) (hp0_0 : Rd k_nets_frame A p0_0 x0_l)
    (H : nets_Net_room.f x0_n x0_mask x0_l = some r) :
    Calls Try.prog 26 [.pointer (some ⟨g0, 0, none⟩)].toArray w (Ret fun v w' => ∃ (N : Mem), v = .bool r ∧ Sep w0 w' [N, bx g0 58 [iV x0_n, iV x0_mask, p0_0]] Z) := by
 unfold nets_Net_room.f at H
 refine f_enter _ Try.func26 rfl Try.ntmps26 rfl fun a h=>?_
 replace h : Fr 9 a [(0, .pointer (some ⟨g0, 0, none⟩))] := h
 replace hS := hS.start
 refine qr <| sg h rfl fun a h=>nx <| qr <| mv h rfl fun a h=>s_nilCheck h rfl rfl fun a h=>s_fieldAddr h rfl U58 rfl ti56 rfl rfl fun a h=>s_load h rfl rfl (hS.load_one (p := 1) rfl U56 rfl rfl) fun a h=>s_len h rfl U56 rfl hp0_0 fun a h=>?_
 refine s_cmp (b := decide ((x0_l.length : Int) < 200)) h rfl rfl rfl (.inr (.inr (.inl ⟨rfl, rfl⟩))) fun a h=>sg h rfl fun a h=>nx <| wp_ret ?_
 obtain rfl := Option.some.inj H
 exact r1 h 2 rfl rfl ⟨_, rfl, Mem.no, rfl, (hS.sel [0, 1] (by decide))⟩

set_option maxHeartbeats 4000000 in
set_option maxRecDepth 20000 in
theorem nets_Net_has.calls (g0 : Nat) (x0_n : Int) (x0_mask : Int) (x0_l : List nets_frame) (p0_0 : Value) (x1 : Int) (r : Bool) (w0 w : World) (Z A : Mem) (hA : A.le Z) (hS : Sep w0 w [bx g0 58 [iV x0_n, iV x0_mask, p0_0]] Z) (hp0_0 : Rd k_nets_frame A p0_0 x0_l)
    (H : nets_Net_has.f x0_n x0_mask x0_l x1 = some r) :
    Calls Try.prog 29 [.pointer (some ⟨g0, 0, none⟩), iV x1].toArray w (Ret fun v w' => ∃ (N : Mem), v = .bool r ∧ Sep w0 w' [N, bx g0 58 [iV x0_n, iV x0_mask, p0_0]] Z) := by
 unfold nets_Net_has.f at H
 refine f_enter _ Try.func29 rfl Try.ntmps29 rfl fun a h=>?_
 replace h : Fr 16 a [(0, .pointer (some ⟨g0, 0, none⟩)), (1, iV x1)] := h
 replace hS := hS.start
 refine qr <| sg h rfl fun a h=>nx <| c_seq fun KJ_1 hKJ_1 => wp_region_lit <| mv h rfl fun a h=>s_cmp (b := decide (x1 ≥ 0)) h rfl rfl rfl (.inr (.inr (.inr (.inr (.inr ⟨rfl, rfl⟩))))) fun a h=>mv h rfl fun a h=>?_
 obtain ⟨hc_1, H⟩ | ⟨hc_1, H⟩ := ii H
 ·refine s_on h rfl rfl (dt hc_1) <| mv h rfl fun a h=>s_on h rfl rfl (dt hc_1) <| mv h rfl fun a h=>s_on h rfl rfl (dt hc_1) <| s_nilCheck h rfl rfl fun a h=>s_on h rfl rfl (dt hc_1) <| s_fieldAddr h rfl U58 rfl ti56 rfl rfl fun a h=>s_on h rfl rfl (dt hc_1) <| s_load h rfl rfl (hS.load_one (p := 1) rfl U56 rfl rfl) fun a h=>s_on h rfl rfl (dt hc_1) <| s_len h rfl U56 rfl hp0_0 fun a h=>?_
  refine s_on h rfl rfl (dt hc_1) <| s_cmp (b := decide (x1 < (x0_l.length : Int))) h rfl rfl rfl (.inr (.inr (.inl ⟨rfl, rfl⟩))) fun a h=>pt h rfl (dt hc_1) fun a h=>sg h rfl fun a h=>wpList_nil <| x_then_n (hKJ_1 _ _ ?_)
  refine wp_ret ?_
  obtain rfl := Option.some.inj H
  exact r1 h 4 rfl rfl ⟨_, rfl, Mem.no, rfl, (hS.sel [0, 1] (by decide))⟩
 ·refine of h rfl rfl (df hc_1) fun a h=>of h rfl rfl (df hc_1) fun a h=>of h rfl rfl (df hc_1) fun a h=>of h rfl rfl (df hc_1) fun a h=>of h rfl rfl (df hc_1) fun a h=>of h rfl rfl (df hc_1) fun a h=>of h rfl rfl (df hc_1) fun a h=>pf h rfl (df hc_1) fun a h=>sg h rfl fun a h=>wpList_nil <| x_then_n (hKJ_1 _ _ ?_)
  refine wp_ret ?_
  obtain rfl := Option.some.inj H
  exact r1 h 4 rfl rfl ⟨_, rfl, Mem.no, rfl, (hS.sel [0, 1] (by decide))⟩

set_option maxHeartbeats 4000000 in
set_option maxRecDepth 20000 in
theorem nets_Net_At.calls (g0 : Nat) (x0_n : Int) (x0_mask : Int) (x0_l : List nets_frame) (p0_0 : Value) (x1 : Int) (r : api_Flight × Bool) (w0 w : World) (Z A : Mem) (hA : A.le Z) (hS : Sep w0 w [bx g0 58 [iV x0_n, iV x0_mask, p0_0]] Z) (hp0_0 : Rd k_nets_frame A p0_0 x0_l)
    (H : nets_Net_At.f x0_n x0_mask x0_l x1 = some r) :
    Calls Try.prog 18 [.pointer (some ⟨g0, 0, none⟩), iV x1].toArray w (Ret fun v w' => ∃ (u0 : Value) (N : Mem) (M0 : Mem), v = .tuple [.agg [iV r.1.From, iV r.1.To, u0].toArray, .bool r.2].toArray ∧ Sep w0 w' [N, bx g0 58 [iV x0_n, iV x0_mask, p0_0], M0] Z ∧ Own Kd.u8 5 M0 Mem.no u0 r.1.Bytes) := by
 unfold nets_Net_At.f at H
 refine f_enter _ Try.func18 rfl Try.ntmps18 rfl fun a h=>?_
 replace h : Fr 25 a [(0, .pointer (some ⟨g0, 0, none⟩)), (1, iV x1)] := h
 replace hS := hS.start
 refine qr <| v_alloc h rfl ti44 hS fun w_1 g_1 hS' a h => ?_
 replace hS : Sep w0 w_1 [_, _, bx g_1 44 [iV 0, iV 0, nS]] Z := hS'
 refine sg h rfl fun a h=>nx <| c_seq fun KJ_1 hKJ_1 => qr <| mv h rfl fun a h=>mv h rfl fun a h=>?_
 obtain ⟨t_1, et_1, H⟩ := bs H
 refine s_call h rfl Try.call29 rfl (nets_Net_has.calls _ x0_n x0_mask x0_l _ x1 t_1 w0 _ _ _ mr (hS.enter [0] (by decide)) (hp0_0.mono (hA.trans (hS.le_zed [0]))) et_1) ?_
 rintro _ w_2 ⟨N_1, rfl, hS'⟩
 intro a h
 obtain ⟨N_2, hS'', le_1, ln_1⟩ := hS.call [0] (by decide) rfl (l' := [_]) (ow := []) rfl hS'
 replace hS : Sep w0 w_2 [N_2, _, _] Z := hS''
 refine s_not h rfl rfl fun a h=>wpList_nil <| x_then_n ?_
 obtain ⟨hc_1, H⟩ | ⟨hc_1, H⟩ := ii H
 ·refine c_cond_f h rfl (nf hc_1) <| wp_skip <| x_then_n (hKJ_1 _ _ ?_)
  refine qr <| mv h rfl fun a h=>s_nilCheck h rfl rfl fun a h=>s_fieldAddr h rfl U58 rfl ti56 rfl rfl fun a h=>s_load h rfl rfl (hS.load_one (p := 1) rfl U56 rfl rfl) fun a h=>mv h rfl fun a h=>?_
  obtain ⟨t_2, et_2, H⟩ := bs H
  refine v_index h rfl U56 ti60 rfl rfl rfl hp0_0 (hA.trans hS.old) et_2 fun ad_1 cs_1 hk_1 hc_2 => ?_
  obtain ⟨v_1, rfl, hr_1⟩ := k_nets_frame.open' hk_1
  intro a h
  refine s_fieldAddr h rfl U60 rfl ti44 rfl rfl fun a h=>s_load h rfl rfl (el_agg (o := 0) (us := [iV t_2.f.From, iV t_2.f.To, v_1]) hc_2 U44 rfl ti44 rfl rfl) fun a h=>v_alloc h rfl ti44 hS fun w_3 g_2 hS' a h => ?_
  replace hS : Sep w0 w_3 [_, _, _, bx g_2 44 [iV 0, iV 0, nS]] Z := hS'
  refine sto 3 h rfl rfl hS rfl ti44 rfl rfl rfl (oa 2 rfl (oc hr_1.one on0)) fun w_4 hS' => ?_
  replace hS : Sep w0 w_4 [_, _, _, bx g_2 44 [iV t_2.f.From, iV t_2.f.To, v_1]] Z := hS'
  refine nx <| qr <| s_fieldAddr h rfl U44 rfl ti26 rfl rfl fun a h=>s_load h rfl rfl (hS.load_one (p := 3) rfl U26 rfl rfl) fun a h=>?_
  obtain ⟨t_3, et_3, H⟩ := bs H
  refine s_call h rfl Try.call30 rfl (slices_Clone_sbyte_byte.calls t_2.f.Bytes _ t_3 w0 _ _ _ mr (hS.enter [] (by decide)) (hr_1.mono (hA.trans (hS.le_zed []))) et_3) ?_
  rintro v_2 w_5 ⟨_, N_3, M_1, rfl, hS', hr_2⟩
  intro a h
  obtain ⟨N_4, hS'', le_2, ln_2⟩ := hS.call [] (by decide) rfl (l' := []) (ow := [_]) rfl hS'
  replace hS : Sep w0 w_5 [N_4, _, _, _, _] Z := hS''
  refine s_fieldAddr h rfl U44 rfl ti26 rfl rfl fun a h=>?_
  refine sto 3 h rfl rfl hS rfl ti26 hr_2.cellsA rfl rfl (oc hr_2.one on0) fun w_6 hS' => ?_
  replace hS : Sep w0 w_6 [_, _, _, bx g_2 44 [_, _, v_2], _] Z := hS'
  refine wpList_nil ?_
  replace h : Fr 25 a [(4, .pointer (some ⟨g_1, 0, none⟩)), (5, .bool false), (6, .pointer (some ⟨g_2, 0, none⟩))] := h.keep [4, 5, 6]
  refine x_then_n <| qr <| s_load h rfl rfl (hS.load_agg (p := 3) (us := [iV t_2.f.From, iV t_2.f.To, v_2]) rfl U44 rfl ti44 rfl rfl) fun a h=>?_
  refine sto 2 h rfl rfl hS rfl ti44 rfl rfl rfl (oa 2 rfl (oc hr_2.one on0)) fun w_7 hS' => ?_
  replace hS : Sep w0 w_7 [_, _, bx g_1 44 [iV t_2.f.From, iV t_2.f.To, v_2], _, _] Z := hS'
  refine sg h rfl fun a h=>nx <| wp_ret ?_
  obtain rfl := Option.some.inj H
  exact f_ret h (rs := [.cell 4 44, .tmp 5]) rfl (.cell rfl (hS.load_agg (p := 2) (us := [iV t_2.f.From, iV t_2.f.To, v_2]) rfl U44 rfl ti44 rfl rfl) (.tmp rfl .nil)) ⟨_, rfl, v_2, N_4, M_1, rfl, (hS.sel [0, 1, 4] (by decide)), hr_2⟩
 ·refine c_cond_t h rfl (nt (ef hc_1)) <| qr <| s_build h rfl ti44 pl44 rfl .nil (cs := [iV 0, iV 0, nS]) (by kernel_rfl) fun a h=>?_
  refine sto 2 h rfl rfl hS rfl ti44 rfl rfl rfl (oz rfl) fun w_8 hS' => ?_
  replace hS : Sep w0 w_8 [_, _, _] Z := hS'
  refine sg h rfl fun a h=>nx <| wp_ret (x_then_r ?_)
  have hS' := hS.room
  replace hS : Sep w0 w_8 [_, _, _, Mem.no] Z := hS'
  obtain rfl := Option.some.inj H
  exact f_ret h (rs := [.cell 4 44, .tmp 5]) rfl (.cell rfl (hS.load_agg (p := 2) (us := [iV 0, iV 0, nS]) rfl U44 rfl ti44 rfl rfl) (.tmp rfl .nil)) ⟨_, rfl, nS, N_2, Mem.no, rfl, (hS.sel [0, 1, 3] (by decide)), (Own.nil Kd.u8 5 Mem.no)⟩

set_option maxHeartbeats 4000000 in
set_option maxRecDepth 20000 in
theorem nets_Net_in.calls (g0 : Nat) (x0_n : Int) (x0_mask : Int) (x0_l : List nets_frame) (p0_0 : Value) (x1 : Int) (r : Bool) (w0 w : World) (Z A : Mem) (hA : A.le Z) (hS : Sep w0 w [bx g0 58 [iV x0_n, iV x0_mask, p0_0]] Z) (hp0_0 : Rd k_nets_frame A p0_0 x0_l)
    (H : nets_Net_in.f x0_n x0_mask x0_l x1 = some r) :
    Calls Try.prog 33 [.pointer (some ⟨g0, 0, none⟩), iV x1].toArray w (Ret fun v w' => ∃ (N : Mem), v = .bool r ∧ Sep w0 w' [N, bx g0 58 [iV x0_n, iV x0_mask, p0_0]] Z) := by
 unfold nets_Net_in.f at H
 refine f_enter _ Try.func33 rfl Try.ntmps33 rfl fun a h=>?_
 replace h : Fr 21 a [(0, .pointer (some ⟨g0, 0, none⟩)), (1, iV x1)] := h
 replace hS := hS.start
 refine qr <| sg h rfl fun a h=>nx <| c_seq fun KJ_1 hKJ_1 => wp_region_lit <| mv h rfl fun a h=>s_cmp (b := decide (x1 ≥ 0)) h rfl rfl rfl (.inr (.inr (.inr (.inr (.inr ⟨rfl, rfl⟩))))) fun a h=>mv h rfl fun a h=>?_
 obtain ⟨hc_1, H⟩ | ⟨hc_1, H⟩ := ii H
 ·refine s_on h rfl rfl (dt hc_1) <| mv h rfl fun a h=>s_on h rfl rfl (dt hc_1) <| s_cmp (b := decide (x1 < 7)) h rfl rfl rfl (.inr (.inr (.inl ⟨rfl, rfl⟩))) fun a h=>pt h rfl (dt hc_1) fun a h=>mv h rfl fun a h=>?_
  obtain ⟨hc_2, H⟩ | ⟨hc_2, H⟩ := ii H
  ·refine s_on h rfl rfl (dt hc_2) <| mv h rfl fun a h=>s_on h rfl rfl (dt hc_2) <| s_nilCheck h rfl rfl fun a h=>s_on h rfl rfl (dt hc_2) <| s_fieldAddr h rfl U58 rfl ti3 rfl rfl fun a h=>s_on h rfl rfl (dt hc_2) <| s_load h rfl rfl (hS.load_one (p := 1) rfl U3 rfl rfl) fun a h=>s_on h rfl rfl (dt hc_2) <| mv h rfl fun a h=>s_on h rfl rfl (dt hc_2) ?_
   obtain ⟨u_1, eu_1, H⟩ := bs H
   refine s_shift (r := shr .i64 x0_mask x1) h rfl rfl rfl (must_some eu_1) (.inr ⟨rfl, rfl⟩) fun a h=>s_on h rfl rfl (dt hc_2) <| s_bits (i := shr .i64 x0_mask x1) (j := 1) (r := band .i64 (shr .i64 x0_mask x1) 1) h rfl rfl rfl (.inl ⟨rfl, rfl⟩) fun a h=>s_on h rfl rfl (dt hc_2) <| s_cmp (b := ((band .i64 (shr .i64 x0_mask x1) 1) == 1)) h rfl rfl rfl (.inl ⟨rfl, rfl⟩) fun a h=>pt h rfl (dt hc_2) fun a h=>sg h rfl fun a h=>wpList_nil <| x_then_n (hKJ_1 _ _ ?_)
   refine wp_ret ?_
   obtain rfl := Option.some.inj H
   exact r1 h 4 rfl rfl ⟨_, rfl, Mem.no, rfl, (hS.sel [0, 1] (by decide))⟩
  ·refine of h rfl rfl (df hc_2) fun a h=>of h rfl rfl (df hc_2) fun a h=>of h rfl rfl (df hc_2) fun a h=>of h rfl rfl (df hc_2) fun a h=>of h rfl rfl (df hc_2) fun a h=>of h rfl rfl (df hc_2) fun a h=>of h rfl rfl (df hc_2) fun a h=>of h rfl rfl (df hc_2) fun a h=>pf h rfl (df hc_2) fun a h=>sg h rfl fun a h=>wpList_nil <| x_then_n (hKJ_1 _ _ ?_)
   refine wp_ret ?_
   obtain rfl := Option.some.inj H
   exact r1 h 4 rfl rfl ⟨_, rfl, Mem.no, rfl, (hS.sel [0, 1] (by decide))⟩
 ·refine of h rfl rfl (df hc_1) fun a h=>of h rfl rfl (df hc_1) fun a h=>pf h rfl (df hc_1) fun a h=>mv h rfl fun a h=>oo h rfl rfl fun a h=>oo h rfl rfl fun a h=>oo h rfl rfl fun a h=>oo h rfl rfl fun a h=>oo h rfl rfl fun a h=>oo h rfl rfl fun a h=>oo h rfl rfl fun a h=>oo h rfl rfl fun a h=>?_
  refine pf h rfl rfl fun a h=>sg h rfl fun a h=>wpList_nil <| x_then_n (hKJ_1 _ _ ?_)
  refine wp_ret ?_
  obtain rfl := Option.some.inj H
  exact r1 h 4 rfl rfl ⟨_, rfl, Mem.no, rfl, (hS.sel [0, 1] (by decide))⟩

set_option maxHeartbeats 4000000 in
set_option maxRecDepth 20000 in
theorem nets_Net_Apart.calls (g0 : Nat) (x0_n : Int) (x0_mask : Int) (x0_l : List nets_frame) (p0_0 : Value) (x1 : Int) (x2 : Int) (r : Bool) (w0 w : World) (Z A : Mem) (hA : A.le Z) (hS : Sep w0 w [bx g0 58 [iV x0_n, iV x0_mask, p0_0]] Z) (hp0_0 : Rd k_nets_frame A p0_0 x0_l)
    (H : nets_Net_Apart.f x0_n x0_mask x0_l x1 x2 = some r) :
    Calls Try.prog 20 [.pointer (some ⟨g0, 0, none⟩), iV x1, iV x2].toArray w (Ret fun v w' => ∃ (N : Mem), v = .bool r ∧ Sep w0 w' [N, bx g0 58 [iV x0_n, iV x0_mask, p0_0]] Z) := by
 unfold nets_Net_Apart.f at H
 refine f_enter _ Try.func20 rfl Try.ntmps20 rfl fun a h=>?_
 replace h : Fr 21 a [(0, .pointer (some ⟨g0, 0, none⟩)), (1, iV x1), (2, iV x2)] := h
 replace hS := hS.start
 refine qr <| sg h rfl fun a h=>nx <| c_seq fun KJ_1 hKJ_1 => wp_region_lit <| mv h rfl fun a h=>s_nilCheck h rfl rfl fun a h=>s_fieldAddr h rfl U58 rfl ti3 rfl rfl fun a h=>s_load h rfl rfl (hS.load_one (p := 1) rfl U3 rfl rfl) fun a h=>s_cmp (b := (x0_mask != 0)) h rfl rfl rfl (.inr (.inl ⟨rfl, rfl⟩)) fun a h=>?_
 refine mv h rfl fun a h=>?_
 obtain ⟨hc_1, H⟩ | ⟨hc_1, H⟩ := ii H
 ·refine of h rfl rfl (xf hc_1) fun a h=>of h rfl rfl (xf hc_1) fun a h=>of h rfl rfl (xf hc_1) fun a h=>of h rfl rfl (xf hc_1) fun a h=>of h rfl rfl (xf hc_1) fun a h=>of h rfl rfl (xf hc_1) fun a h=>of h rfl rfl (xf hc_1) fun a h=>pf h rfl (xf hc_1) fun a h=>sg h rfl fun a h=>wpList_nil <| x_then_n (hKJ_1 _ _ ?_)
  refine wp_ret ?_
  obtain rfl := Option.some.inj H
  exact r1 h 6 rfl rfl ⟨_, rfl, Mem.no, rfl, (hS.sel [0, 1] (by decide))⟩
 ·refine s_on h rfl rfl (xt hc_1) <| mv h rfl fun a h=>s_on h rfl rfl (xt hc_1) <| mv h rfl fun a h=>s_on h rfl rfl (xt hc_1) ?_
  obtain ⟨t_1, et_1, H⟩ := bs H
  refine s_call h rfl Try.call33 rfl (nets_Net_in.calls _ x0_n x0_mask x0_l _ x1 t_1 w0 _ _ _ mr (hS.enter [0] (by decide)) (hp0_0.mono (hA.trans (hS.le_zed [0]))) et_1) ?_
  rintro _ w_1 ⟨N_1, rfl, hS'⟩
  intro a h
  obtain ⟨N_2, hS'', le_1, ln_1⟩ := hS.call [0] (by decide) rfl (l' := [_]) (ow := []) rfl hS'
  replace hS : Sep w0 w_1 [N_2, _] Z := hS''
  refine s_on h rfl rfl (xt hc_1) <| mv h rfl fun a h=>s_on h rfl rfl (xt hc_1) <| mv h rfl fun a h=>s_on h rfl rfl (xt hc_1) ?_
  obtain ⟨t_2, et_2, H⟩ := bs H
  refine s_call h rfl Try.call33 rfl (nets_Net_in.calls _ x0_n x0_mask x0_l _ x2 t_2 w0 _ _ _ mr (hS.enter [0] (by decide)) (hp0_0.mono (hA.trans (hS.le_zed [0]))) et_2) ?_
  rintro _ w_2 ⟨N_3, rfl, hS'⟩
  intro a h
  obtain ⟨N_4, hS'', le_2, ln_2⟩ := hS.call [0] (by decide) rfl (l' := [_]) (ow := []) rfl hS'
  replace hS : Sep w0 w_2 [N_4, _] Z := hS''
  refine s_on h rfl rfl (xt hc_1) <| s_beq (b := !(t_1 == t_2)) h rfl U4 rfl rfl (.inr ⟨rfl, rfl⟩) fun a h=>pt h rfl (xt hc_1) fun a h=>sg h rfl fun a h=>wpList_nil <| x_then_n (hKJ_1 _ _ ?_)
  refine wp_ret ?_
  obtain rfl := Option.some.inj H
  exact r1 h 6 rfl rfl ⟨_, rfl, N_4, rfl, (hS.sel [0, 1] (by decide))⟩


end Go.Proofs
