/- What the calls do: each function once. -/
import Derived.Test.YtploijfgnnkddaaXferServesc1
namespace Go.Proofs
open Go.Gp
set_option linter.unusedVariables false
set_option maxHeartbeats 4000000 in
set_option maxRecDepth 20000 in
theorem xfer_Fetch_fits.calls (g0 : Nat) (x0_v : Int) (x0_me : Int) (x0_source : Int) (x0_b : List UInt8) (p0_0 : Value) (x0_total : Int) (x0_begun : Bool) (x0_done : Bool) (x1 : api_Msg) (p1_1 : Value) (p1_2 : Value) (p1_3 : Value) (p1_4 : Value) (p1_5 : Value) (p1_6 : Value) (r : Bool) (w0 w : World) (Z A : Mem) (hA : A.le Z) (hS : Sep w0 w [bx g0 109 [iV x0_v, iV x0_me, iV x0_source, p0_0, iV x0_total, .bool x0_begun, .bool x0_done]] Z) (hp0_0 : Rd Kd.u8 A p0_0 x0_b) (hp1_1 : Rd Kd.u8 A p1_1 x1.Data) (hp1_2 : Rd (Kd.int .i64) A p1_2 x1.Have) (hp1_3 : Rd (Kd.int .i64) A p1_3 x1.Need) (hp1_4 : Rd Kd.u8 A p1_4 x1.Entry.Cmd.Key) (hp1_5 : Rd Kd.u8 A p1_5 x1.Entry.Cmd.Val) (hp1_6 : Rd Kd.u8 A p1_6 x1.Entry.Cmd.Old)
    (H : xfer_Fetch_fits.f x0_v x0_me x0_source x0_b x0_total x0_begun x0_done x1 = some r) :
    Calls Try.prog 69 [.pointer (some ⟨g0, 0, none⟩), .agg (E56 x1 p1_1 p1_2 p1_3 p1_4 p1_5 p1_6).toArray].toArray w (Ret fun v w' => ∃ (N : Mem), v = .bool r ∧ Sep w0 w' [N, bx g0 109 [iV x0_v, iV x0_me, iV x0_source, p0_0, iV x0_total, .bool x0_begun, .bool x0_done]] Z) := by
 unfold xfer_Fetch_fits.f at H
 refine f_enter _ Try.func69 rfl Try.ntmps69 rfl fun a h=>?_
 replace h : Fr 73 a [(0, .pointer (some ⟨g0, 0, none⟩)), (1, .agg (E56 x1 p1_1 p1_2 p1_3 p1_4 p1_5 p1_6).toArray)] := h
 replace hS := hS.start
 refine qr <| v_box (vs := (E56 x1 p1_1 p1_2 p1_3 p1_4 p1_5 p1_6)) h rfl rfl rfl hS fun w_1 g_1 hS' a h => ?_
 replace hS : Sep w0 w_1 [_, _, bx g_1 56 (E56 x1 p1_1 p1_2 p1_3 p1_4 p1_5 p1_6)] Z := hS'
 refine sg h rfl fun a h=>nx <| c_seq fun KJ_1 hKJ_1 => c_seq fun KJ_2 hKJ_2 => ?_
 have hJ_j_1 : ∀ (x_1 : Bool), xfer_Fetch_fits.J1 x1 x0_begun x0_total x_1 = some r → ∀ (a : Act) (w_2 : World), (∃ (N_1 : Mem), Fr 73 a [(0, .pointer (some ⟨g0, 0, none⟩)), (3, .pointer (some ⟨g_1, 0, none⟩)), (4, .bool false), (47, .bool x_1)] ∧ Sep w0 w_2 [N_1, bx g0 109 [iV x0_v, iV x0_me, iV x0_source, p0_0, iV x0_total, .bool x0_begun, .bool x0_done], bx g_1 56 (E56 x1 p1_1 p1_2 p1_3 p1_4 p1_5 p1_6)] Z ∧ Mem.no.le N_1) → KJ_2 a w_2 := by
  clear H h hS a
  rintro x_1 H a w_2 ⟨N_1, h, hS, le_1⟩
  unfold xfer_Fetch_fits.J1 at H
  refine hKJ_2 _ _ ?_
  obtain ⟨hc_1, H⟩ | ⟨hc_1, H⟩ := ii H
  ·refine c_cond_t h rfl hc_1 <| qr <| sg h rfl fun a h=>nx <| wp_ret (x_then_r ?_)
   obtain rfl := Option.some.inj H
   exact r1 h 4 rfl rfl ⟨_, rfl, N_1, rfl, (hS.sel [0, 1] (by decide))⟩
  ·refine c_cond_f h rfl (ef hc_1) <| wp_skip <| x_then_n (hKJ_1 _ _ ?_)
   refine c_seq fun KJ_3 hKJ_3 => h_begin (S := fun w => Sep w0 w [N_1, bx g0 109 [iV x0_v, iV x0_me, iV x0_source, p0_0, iV x0_total, .bool x0_begun, .bool x0_done], bx g_1 56 (E56 x1 p1_1 p1_2 p1_3 p1_4 p1_5 p1_6)] Z) 26 (by kernel_rfl) rfl (bA 26 0) (by kernel_rfl) hS fun w_3 hS => ?_
   refine t_take 0 (bA 26 1) rfl rfl rfl rfl h (hS.sub .ii) (v := .pointer (some ⟨g_1, 10, none⟩)) (fun w hS => r_fieldAddr h U56 rfl ti3 rfl rfl rfl) fun a h=>t_take 1 (bA 26 3) rfl rfl rfl rfl h (hS.sub .ii) (v := iV x1.Total) (fun w hS => r_load h rfl (hS.load_one (p := 2) rfl U3 rfl rfl)) fun a h=>t_take 2 (bA 26 7) rfl rfl rfl rfl h (hS.sub .ii) (v := .pointer (some ⟨g_1, 9, none⟩)) (fun w hS => r_fieldAddr h U56 rfl ti3 rfl rfl rfl) fun a h=>t_take 3 (bA 26 15) rfl rfl rfl rfl h (hS.sub .ii) (v := iV x1.At) (fun w hS => r_load h rfl (hS.load_one (p := 2) rfl U3 rfl rfl)) fun a h=>t_take 4 (bA 26 31) rfl rfl rfl rfl h (hS.sub .ii) (v := .pointer (some ⟨g_1, 11, none⟩)) (fun w hS => r_fieldAddr h U56 rfl ti22 rfl rfl rfl) fun a h=>t_take 5 (bA 26 63) rfl rfl rfl rfl h (hS.sub .ii) (v := p1_1) (fun w hS => r_load h rfl (hS.load_one (p := 2) rfl U22 rfl rfl)) fun a h=>?_
   refine t_take 6 (bA 26 127) rfl rfl rfl rfl h (hS.sub .ii) (v := iV (x1.Data.length : Int)) (fun w hS => r_len h U22 rfl hp1_1) fun a h=>t_take 7 (bA 26 255) rfl rfl rfl rfl h (hS.sub .ii) (v := iV (w64 (x1.At + (x1.Data.length : Int)))) (fun w hS => r_arith (r := w64 (x1.At + (x1.Data.length : Int))) h rfl rfl (.inl ⟨rfl, rfl⟩)) fun a h=>t_take 8 (bA 26 511) rfl rfl rfl rfl h (hS.sub .ii) (v := .bool (decide (x1.Total ≥ (w64 (x1.At + (x1.Data.length : Int)))))) (fun w hS => r_cmp (b := decide (x1.Total ≥ (w64 (x1.At + (x1.Data.length : Int))))) h rfl rfl (.inr (.inr (.inr (.inr (.inr ⟨rfl, rfl⟩)))))) fun a h=>t_take 9 (bA 26 1023) rfl rfl rfl rfl h (hS.sub .ii) (v := .bool (decide (x1.Total ≥ (w64 (x1.At + (x1.Data.length : Int)))))) (fun w hS => r_move h rfl) fun a h=>?_
   obtain ⟨hc_2, H⟩ | ⟨hc_2, H⟩ := ii H
   ·refine t_take_on 10 (bA 26 2047) rfl rfl rfl rfl (dt hc_2) rfl rfl h (hS.sub .ii) (v := .pointer (some ⟨g0, 0, none⟩)) (fun w hS => r_move h rfl) fun a h=>t_take_on 11 (bA 26 4095) rfl rfl rfl rfl (dt hc_2) rfl rfl h (hS.sub .ii) (v := .pointer (some ⟨g0, 0, none⟩)) (fun w hS => r_nilCheck h rfl) fun a h=>t_take_on 12 (bA 26 8191) rfl rfl rfl rfl (dt hc_2) rfl rfl h (hS.sub .ii) (v := .pointer (some ⟨g0, 5, none⟩)) (fun w hS => r_fieldAddr h U109 rfl ti4 rfl rfl rfl) fun a h=>t_take_on 13 (bA 26 16383) rfl rfl rfl rfl (dt hc_2) rfl rfl h (hS.sub .ii) (v := .bool x0_begun) (fun w hS => r_load h rfl (hS.load_one (p := 1) rfl U4 rfl rfl)) fun a h=>t_take_on 14 (bA 26 32767) rfl rfl rfl rfl (dt hc_2) rfl rfl h (hS.sub .ii) (v := .bool (!x0_begun)) (fun w hS => r_not h rfl) fun a h=>t_take_on 15 (bA 26 65535) rfl rfl rfl rfl (dt hc_2) rfl rfl h (hS.sub .ii) (v := .bool (!x0_begun)) (fun w hS => r_move h rfl) fun a h=>?_
    obtain ⟨hc_3, H⟩ | ⟨hc_3, H⟩ := ii H
    ·refine t_take_on 16 (bA 26 131071) rfl rfl rfl rfl (nf hc_3) rfl rfl h (hS.sub .ii) (v := .pointer (some ⟨g_1, 10, none⟩)) (fun w hS => r_fieldAddr h U56 rfl ti3 rfl rfl rfl) fun a h=>t_take_on 17 (bA 26 262143) rfl rfl rfl rfl (nf hc_3) rfl rfl h (hS.sub .ii) (v := iV x1.Total) (fun w hS => r_load h rfl (hS.load_one (p := 2) rfl U3 rfl rfl)) fun a h=>t_take_on 18 (bA 26 524287) rfl rfl rfl rfl (nf hc_3) rfl rfl h (hS.sub .ii) (v := .pointer (some ⟨g0, 0, none⟩)) (fun w hS => r_move h rfl) fun a h=>t_take_on 19 (bA 26 1048575) rfl rfl rfl rfl (nf hc_3) rfl rfl h (hS.sub .ii) (v := .pointer (some ⟨g0, 0, none⟩)) (fun w hS => r_nilCheck h rfl) fun a h=>t_take_on 20 (bA 26 2097151) rfl rfl rfl rfl (nf hc_3) rfl rfl h (hS.sub .ii) (v := .pointer (some ⟨g0, 4, none⟩)) (fun w hS => r_fieldAddr h U109 rfl ti3 rfl rfl rfl) fun a h=>t_take_on 21 (bA 26 4194303) rfl rfl rfl rfl (nf hc_3) rfl rfl h (hS.sub .ii) (v := iV x0_total) (fun w hS => r_load h rfl (hS.load_one (p := 1) rfl U3 rfl rfl)) fun a h=>?_
     refine t_take_on 22 (bA 26 8388607) rfl rfl rfl rfl (nf hc_3) rfl rfl h (hS.sub .ii) (v := .bool (x1.Total == x0_total)) (fun w hS => r_cmp (b := (x1.Total == x0_total)) h rfl rfl (.inl ⟨rfl, rfl⟩)) fun a h=>t_take_on 23 (bA 26 16777215) rfl rfl rfl rfl (dt hc_2) rfl rfl h (hS.sub .ii) (v := .bool (x1.Total == x0_total)) (fun w hS => r_pick_f h rfl (nf hc_3) rfl) fun a h=>t_take 24 (bA 26 33554431) rfl rfl rfl rfl h (hS.sub .ii) (v := .bool (x1.Total == x0_total)) (fun w hS => r_pick_t h rfl (dt hc_2) rfl) fun a h=>t_take 25 (bA 26 67108863) rfl rfl rfl rfl h (hS.sub .ii) (v := .bool (x1.Total == x0_total)) (fun w hS => r_assign h rfl) fun a h=>h_done (by kernel_rfl) <| x_then_n (hKJ_3 _ _ ?_)
     refine wp_ret ?_
     obtain rfl := Option.some.inj H
     exact r1 h 4 rfl rfl ⟨_, rfl, N_1, rfl, (hS.sel [0, 1] (by decide))⟩
    ·refine t_take_off 16 (bA 26 131071) rfl rfl rfl rfl (.inl (congrArg Value.bool (nt (ef hc_3)))) rfl rfl h (hS.sub .ii) fun a h=>t_take_off 17 (bA 26 262143) rfl rfl rfl rfl (.inl (congrArg Value.bool (nt (ef hc_3)))) rfl rfl h (hS.sub .ii) fun a h=>t_take_off 18 (bA 26 524287) rfl rfl rfl rfl (.inl (congrArg Value.bool (nt (ef hc_3)))) rfl rfl h (hS.sub .ii) fun a h=>t_take_off 19 (bA 26 1048575) rfl rfl rfl rfl (.inl (congrArg Value.bool (nt (ef hc_3)))) rfl rfl h (hS.sub .ii) fun a h=>t_take_off 20 (bA 26 2097151) rfl rfl rfl rfl (.inl (congrArg Value.bool (nt (ef hc_3)))) rfl rfl h (hS.sub .ii) fun a h=>t_take_off 21 (bA 26 4194303) rfl rfl rfl rfl (.inl (congrArg Value.bool (nt (ef hc_3)))) rfl rfl h (hS.sub .ii) fun a h=>t_take_off 22 (bA 26 8388607) rfl rfl rfl rfl (.inl (congrArg Value.bool (nt (ef hc_3)))) rfl rfl h (hS.sub .ii) fun a h=>t_take_on 23 (bA 26 16777215) rfl rfl rfl rfl (dt hc_2) rfl rfl h (hS.sub .ii) (v := .bool true) (fun w hS => r_pick_t h rfl (nt (ef hc_3)) rfl) fun a h=>?_
     refine t_take 24 (bA 26 33554431) rfl rfl rfl rfl h (hS.sub .ii) (v := .bool true) (fun w hS => r_pick_t h rfl (dt hc_2) rfl) fun a h=>t_take 25 (bA 26 67108863) rfl rfl rfl rfl h (hS.sub .ii) (v := .bool true) (fun w hS => r_assign h rfl) fun a h=>h_done (by kernel_rfl) <| x_then_n (hKJ_3 _ _ ?_)
     refine wp_ret ?_
     obtain rfl := Option.some.inj H
     exact r1 h 4 rfl rfl ⟨_, rfl, N_1, rfl, (hS.sel [0, 1] (by decide))⟩
   ·refine t_take_off 10 (bA 26 2047) rfl rfl rfl rfl (.inl (congrArg Value.bool (df hc_2))) rfl rfl h (hS.sub .ii) fun a h=>t_take_off 11 (bA 26 4095) rfl rfl rfl rfl (.inl (congrArg Value.bool (df hc_2))) rfl rfl h (hS.sub .ii) fun a h=>t_take_off 12 (bA 26 8191) rfl rfl rfl rfl (.inl (congrArg Value.bool (df hc_2))) rfl rfl h (hS.sub .ii) fun a h=>t_take_off 13 (bA 26 16383) rfl rfl rfl rfl (.inl (congrArg Value.bool (df hc_2))) rfl rfl h (hS.sub .ii) fun a h=>t_take_off 14 (bA 26 32767) rfl rfl rfl rfl (.inl (congrArg Value.bool (df hc_2))) rfl rfl h (hS.sub .ii) fun a h=>t_take_off 15 (bA 26 65535) rfl rfl rfl rfl (.inl (congrArg Value.bool (df hc_2))) rfl rfl h (hS.sub .ii) fun a h=>t_take_off 16 (bA 26 131071) rfl rfl rfl rfl (.inr rfl) rfl rfl h (hS.sub .ii) fun a h=>t_take_off 17 (bA 26 262143) rfl rfl rfl rfl (.inr rfl) rfl rfl h (hS.sub .ii) fun a h=>t_take_off 18 (bA 26 524287) rfl rfl rfl rfl (.inr rfl) rfl rfl h (hS.sub .ii) fun a h=>t_take_off 19 (bA 26 1048575) rfl rfl rfl rfl (.inr rfl) rfl rfl h (hS.sub .ii) fun a h=>t_take_off 20 (bA 26 2097151) rfl rfl rfl rfl (.inr rfl) rfl rfl h (hS.sub .ii) fun a h=>?_
    refine t_take_off 21 (bA 26 4194303) rfl rfl rfl rfl (.inr rfl) rfl rfl h (hS.sub .ii) fun a h=>t_take_off 22 (bA 26 8388607) rfl rfl rfl rfl (.inr rfl) rfl rfl h (hS.sub .ii) fun a h=>t_take_off 23 (bA 26 16777215) rfl rfl rfl rfl (.inl (congrArg Value.bool (df hc_2))) rfl rfl h (hS.sub .ii) fun a h=>t_take 24 (bA 26 33554431) rfl rfl rfl rfl h (hS.sub .ii) (v := .bool false) (fun w hS => r_pick_f h rfl (df hc_2) rfl) fun a h=>t_take 25 (bA 26 67108863) rfl rfl rfl rfl h (hS.sub .ii) (v := .bool false) (fun w hS => r_assign h rfl) fun a h=>h_done (by kernel_rfl) <| x_then_n (hKJ_3 _ _ ?_)
    refine wp_ret ?_
    obtain rfl := Option.some.inj H
    exact r1 h 4 rfl rfl ⟨_, rfl, N_1, rfl, (hS.sel [0, 1] (by decide))⟩
 clear hKJ_2
 refine h_begin (S := fun w => Sep w0 w [Mem.no, bx g0 109 [iV x0_v, iV x0_me, iV x0_source, p0_0, iV x0_total, .bool x0_begun, .bool x0_done], bx g_1 56 (E56 x1 p1_1 p1_2 p1_3 p1_4 p1_5 p1_6)] Z) 43 (by kernel_rfl) rfl (bA 43 0) (by kernel_rfl) hS fun w_4 hS => ?_
 refine h_masks [(6, 1, 0), (7, 32, 1), (8, 64, 2), (9, 128, 4), (10, 256, 8), (11, 520, 16), (12, 1536, 48), (13, 2560, 80), (14, 4608, 144), (15, 8192, 272), (16, 16392, 512), (17, 49152, 1536), (18, 16385, 512), (19, 147456, 4608), (20, 278528, 8704), (21, 540672, 16896), (22, 1130496, 35328), (23, 2113536, 66048), (24, 4194304, 131584), (25, 8388616, 262144), (26, 25165824, 786432), (27, 8388609, 262144), (28, 75497472, 2359296), (29, 142606336, 4456448), (30, 276824064, 8650752), (31, 578813952, 18087936), (32, 1082130432, 33816576), (33, 2147483648, 67371008), (34, 4294967304, 134217728), (35, 12884901888, 402653184), (36, 4294967297, 134217728), (37, 38654705664, 1207959552), (38, 73014444032, 2281701376), (39, 141733920768, 4429185024), (40, 279172874240, 8724152320), (41, 571230650368, 17850957824), (42, 1103806595072, 34493956096), (43, 2199023255552, 68853694464), (44, 4398046511112, 137438953472), (45, 13194139533312, 412316860416), (46, 21990232555520, 687194767360), (47, 39582418599936, 1236950581248), (48, 74766790688768, 2336462209024)] (by kernel_rfl) (by kernel_rfl) fun hF => m_take hF 0 (bA 43 1) rfl rfl rfl rfl h (hS.sub .ii) (v := .pointer (some ⟨g0, 0, none⟩)) (fun w hS => r_move h rfl) fun a h=>?_
 refine m_take hF 1 (bA 43 3) rfl rfl rfl rfl h (hS.sub .ii) (v := .pointer (some ⟨g0, 0, none⟩)) (fun w hS => r_nilCheck h rfl) fun a h=>m_take hF 2 (bA 43 7) rfl rfl rfl rfl h (hS.sub .ii) (v := .pointer (some ⟨g0, 6, none⟩)) (fun w hS => r_fieldAddr h U109 rfl ti4 rfl rfl rfl) fun a h=>m_take hF 3 (bA 43 15) rfl rfl rfl rfl h (hS.sub .ii) (v := .bool x0_done) (fun w hS => r_load h rfl (hS.load_one (p := 1) rfl U4 rfl rfl)) fun a h=>m_take hF 4 (bA 43 31) rfl rfl rfl rfl h (hS.sub .ii) (v := .bool x0_done) (fun w hS => r_move h rfl) fun a h=>?_
 obtain ⟨hc_4, H⟩ | ⟨hc_4, H⟩ := ii H
 ·refine m_take_off hF 5 (bA 43 63) rfl rfl rfl rfl (.inl (congrArg Value.bool hc_4)) rfl rfl h (hS.sub .ii) fun a h=>m_take_off hF 6 (bA 43 127) rfl rfl rfl rfl (.inl (congrArg Value.bool hc_4)) rfl rfl h (hS.sub .ii) fun a h=>m_take_off hF 7 (bA 43 255) rfl rfl rfl rfl (.inl (congrArg Value.bool hc_4)) rfl rfl h (hS.sub .ii) fun a h=>m_take hF 8 (bA 43 511) rfl rfl rfl rfl h (hS.sub .ii) (v := .bool true) (fun w hS => r_pick_t h rfl hc_4 rfl) fun a h=>m_take hF 9 (bA 43 1023) rfl rfl rfl rfl h (hS.sub .ii) (v := .bool true) (fun w hS => r_move h rfl) fun a h=>m_take_off hF 10 (bA 43 2047) rfl rfl rfl rfl (.inl (congrArg Value.bool rfl)) rfl rfl h (hS.sub .ii) fun a h=>m_take_off hF 11 (bA 43 4095) rfl rfl rfl rfl (.inl (congrArg Value.bool rfl)) rfl rfl h (hS.sub .ii) fun a h=>m_take_off hF 12 (bA 43 8191) rfl rfl rfl rfl (.inl (congrArg Value.bool rfl)) rfl rfl h (hS.sub .ii) fun a h=>m_take_off hF 13 (bA 43 16383) rfl rfl rfl rfl (.inl (congrArg Value.bool rfl)) rfl rfl h (hS.sub .ii) fun a h=>m_take_off hF 14 (bA 43 32767) rfl rfl rfl rfl (.inl (congrArg Value.bool rfl)) rfl rfl h (hS.sub .ii) fun a h=>?_
  refine m_take_off hF 15 (bA 43 65535) rfl rfl rfl rfl (.inl (congrArg Value.bool rfl)) rfl rfl h (hS.sub .ii) fun a h=>m_take_off hF 16 (bA 43 131071) rfl rfl rfl rfl (.inl (congrArg Value.bool rfl)) rfl rfl h (hS.sub .ii) fun a h=>m_take hF 17 (bA 43 262143) rfl rfl rfl rfl h (hS.sub .ii) (v := .bool true) (fun w hS => r_pick_t h rfl rfl rfl) fun a h=>m_take hF 18 (bA 43 524287) rfl rfl rfl rfl h (hS.sub .ii) (v := .bool true) (fun w hS => r_move h rfl) fun a h=>m_take_off hF 19 (bA 43 1048575) rfl rfl rfl rfl (.inl (congrArg Value.bool rfl)) rfl rfl h (hS.sub .ii) fun a h=>m_take_off hF 20 (bA 43 2097151) rfl rfl rfl rfl (.inl (congrArg Value.bool rfl)) rfl rfl h (hS.sub .ii) fun a h=>m_take_off hF 21 (bA 43 4194303) rfl rfl rfl rfl (.inl (congrArg Value.bool rfl)) rfl rfl h (hS.sub .ii) fun a h=>m_take_off hF 22 (bA 43 8388607) rfl rfl rfl rfl (.inl (congrArg Value.bool rfl)) rfl rfl h (hS.sub .ii) fun a h=>m_take_off hF 23 (bA 43 16777215) rfl rfl rfl rfl (.inl (congrArg Value.bool rfl)) rfl rfl h (hS.sub .ii) fun a h=>m_take_off hF 24 (bA 43 33554431) rfl rfl rfl rfl (.inl (congrArg Value.bool rfl)) rfl rfl h (hS.sub .ii) fun a h=>?_
  refine m_take_off hF 25 (bA 43 67108863) rfl rfl rfl rfl (.inl (congrArg Value.bool rfl)) rfl rfl h (hS.sub .ii) fun a h=>m_take hF 26 (bA 43 134217727) rfl rfl rfl rfl h (hS.sub .ii) (v := .bool true) (fun w hS => r_pick_t h rfl rfl rfl) fun a h=>m_take hF 27 (bA 43 268435455) rfl rfl rfl rfl h (hS.sub .ii) (v := .bool true) (fun w hS => r_move h rfl) fun a h=>m_take_off hF 28 (bA 43 536870911) rfl rfl rfl rfl (.inl (congrArg Value.bool rfl)) rfl rfl h (hS.sub .ii) fun a h=>m_take_off hF 29 (bA 43 1073741823) rfl rfl rfl rfl (.inl (congrArg Value.bool rfl)) rfl rfl h (hS.sub .ii) fun a h=>m_take_off hF 30 (bA 43 2147483647) rfl rfl rfl rfl (.inl (congrArg Value.bool rfl)) rfl rfl h (hS.sub .ii) fun a h=>m_take_off hF 31 (bA 43 4294967295) rfl rfl rfl rfl (.inl (congrArg Value.bool rfl)) rfl rfl h (hS.sub .ii) fun a h=>m_take_off hF 32 (bA 43 8589934591) rfl rfl rfl rfl (.inl (congrArg Value.bool rfl)) rfl rfl h (hS.sub .ii) fun a h=>m_take_off hF 33 (bA 43 17179869183) rfl rfl rfl rfl (.inl (congrArg Value.bool rfl)) rfl rfl h (hS.sub .ii) fun a h=>m_take_off hF 34 (bA 43 34359738367) rfl rfl rfl rfl (.inl (congrArg Value.bool rfl)) rfl rfl h (hS.sub .ii) fun a h=>?_
  refine m_take_off hF 35 (bA 43 68719476735) rfl rfl rfl rfl (.inl (congrArg Value.bool rfl)) rfl rfl h (hS.sub .ii) fun a h=>m_take hF 36 (bA 43 137438953471) rfl rfl rfl rfl h (hS.sub .ii) (v := .bool true) (fun w hS => r_pick_t h rfl rfl rfl) fun a h=>m_take hF 37 (bA 43 274877906943) rfl rfl rfl rfl h (hS.sub .ii) (v := .bool true) (fun w hS => r_move h rfl) fun a h=>m_take_off hF 38 (bA 43 549755813887) rfl rfl rfl rfl (.inl (congrArg Value.bool rfl)) rfl rfl h (hS.sub .ii) fun a h=>m_take_off hF 39 (bA 43 1099511627775) rfl rfl rfl rfl (.inl (congrArg Value.bool rfl)) rfl rfl h (hS.sub .ii) fun a h=>m_take_off hF 40 (bA 43 2199023255551) rfl rfl rfl rfl (.inl (congrArg Value.bool rfl)) rfl rfl h (hS.sub .ii) fun a h=>m_take_off hF 41 (bA 43 4398046511103) rfl rfl rfl rfl (.inl (congrArg Value.bool rfl)) rfl rfl h (hS.sub .ii) fun a h=>m_take hF 42 (bA 43 8796093022207) rfl rfl rfl rfl h (hS.sub .ii) (v := .bool true) (fun w hS => r_pick_t h rfl rfl rfl) fun a h=>h_done (by kernel_rfl) ?_
  exact x_then_n (hJ_j_1 true H _ _ ⟨Mem.no, (h.to rfl), (hS.sel [0, 1, 2] (by decide)), mr⟩)
 ·refine m_take_on hF 5 (bA 43 63) rfl rfl rfl rfl (ef hc_4) rfl rfl h (hS.sub .ii) (v := .pointer (some ⟨g_1, 0, none⟩)) (fun w hS => r_fieldAddr h U56 rfl ti3 rfl rfl rfl) fun a h=>m_take_on hF 6 (bA 43 127) rfl rfl rfl rfl (ef hc_4) rfl rfl h (hS.sub .ii) (v := iV x1.Kind) (fun w hS => r_load h rfl (hS.load_one (p := 2) rfl U3 rfl rfl)) fun a h=>m_take_on hF 7 (bA 43 255) rfl rfl rfl rfl (ef hc_4) rfl rfl h (hS.sub .ii) (v := .bool (x1.Kind != 5)) (fun w hS => r_cmp (b := (x1.Kind != 5)) h rfl rfl (.inr (.inl ⟨rfl, rfl⟩))) fun a h=>m_take hF 8 (bA 43 511) rfl rfl rfl rfl h (hS.sub .ii) (v := .bool (x1.Kind != 5)) (fun w hS => r_pick_f h rfl (ef hc_4) rfl) fun a h=>m_take hF 9 (bA 43 1023) rfl rfl rfl rfl h (hS.sub .ii) (v := .bool (x1.Kind != 5)) (fun w hS => r_move h rfl) fun a h=>?_
  obtain ⟨hc_5, H⟩ | ⟨hc_5, H⟩ := ii H
  ·refine m_take_on hF 10 (bA 43 2047) rfl rfl rfl rfl (xf hc_5) rfl rfl h (hS.sub .ii) (v := .pointer (some ⟨g_1, 3, none⟩)) (fun w hS => r_fieldAddr h U56 rfl ti3 rfl rfl rfl) fun a h=>m_take_on hF 11 (bA 43 4095) rfl rfl rfl rfl (xf hc_5) rfl rfl h (hS.sub .ii) (v := iV x1.View) (fun w hS => r_load h rfl (hS.load_one (p := 2) rfl U3 rfl rfl)) fun a h=>m_take_on hF 12 (bA 43 8191) rfl rfl rfl rfl (xf hc_5) rfl rfl h (hS.sub .ii) (v := .pointer (some ⟨g0, 0, none⟩)) (fun w hS => r_move h rfl) fun a h=>m_take_on hF 13 (bA 43 16383) rfl rfl rfl rfl (xf hc_5) rfl rfl h (hS.sub .ii) (v := .pointer (some ⟨g0, 0, none⟩)) (fun w hS => r_nilCheck h rfl) fun a h=>m_take_on hF 14 (bA 43 32767) rfl rfl rfl rfl (xf hc_5) rfl rfl h (hS.sub .ii) (v := .pointer (some ⟨g0, 0, none⟩)) (fun w hS => r_fieldAddr h U109 rfl ti3 rfl rfl rfl) fun a h=>m_take_on hF 15 (bA 43 65535) rfl rfl rfl rfl (xf hc_5) rfl rfl h (hS.sub .ii) (v := iV x0_v) (fun w hS => r_load h rfl (hS.load_one (p := 1) rfl U3 rfl rfl)) fun a h=>?_
   refine m_take_on hF 16 (bA 43 131071) rfl rfl rfl rfl (xf hc_5) rfl rfl h (hS.sub .ii) (v := .bool (x1.View != x0_v)) (fun w hS => r_cmp (b := (x1.View != x0_v)) h rfl rfl (.inr (.inl ⟨rfl, rfl⟩))) fun a h=>m_take hF 17 (bA 43 262143) rfl rfl rfl rfl h (hS.sub .ii) (v := .bool (x1.View != x0_v)) (fun w hS => r_pick_f h rfl (xf hc_5) rfl) fun a h=>m_take hF 18 (bA 43 524287) rfl rfl rfl rfl h (hS.sub .ii) (v := .bool (x1.View != x0_v)) (fun w hS => r_move h rfl) fun a h=>?_
   obtain ⟨hc_6, H⟩ | ⟨hc_6, H⟩ := ii H
   ·refine m_take_on hF 19 (bA 43 1048575) rfl rfl rfl rfl (xf hc_6) rfl rfl h (hS.sub .ii) (v := .pointer (some ⟨g_1, 1, none⟩)) (fun w hS => r_fieldAddr h U56 rfl ti3 rfl rfl rfl) fun a h=>m_take_on hF 20 (bA 43 2097151) rfl rfl rfl rfl (xf hc_6) rfl rfl h (hS.sub .ii) (v := iV x1.From) (fun w hS => r_load h rfl (hS.load_one (p := 2) rfl U3 rfl rfl)) fun a h=>m_take_on hF 21 (bA 43 4194303) rfl rfl rfl rfl (xf hc_6) rfl rfl h (hS.sub .ii) (v := .pointer (some ⟨g0, 0, none⟩)) (fun w hS => r_move h rfl) fun a h=>m_take_on hF 22 (bA 43 8388607) rfl rfl rfl rfl (xf hc_6) rfl rfl h (hS.sub .ii) (v := .pointer (some ⟨g0, 0, none⟩)) (fun w hS => r_nilCheck h rfl) fun a h=>m_take_on hF 23 (bA 43 16777215) rfl rfl rfl rfl (xf hc_6) rfl rfl h (hS.sub .ii) (v := .pointer (some ⟨g0, 2, none⟩)) (fun w hS => r_fieldAddr h U109 rfl ti3 rfl rfl rfl) fun a h=>m_take_on hF 24 (bA 43 33554431) rfl rfl rfl rfl (xf hc_6) rfl rfl h (hS.sub .ii) (v := iV x0_source) (fun w hS => r_load h rfl (hS.load_one (p := 1) rfl U3 rfl rfl)) fun a h=>?_
    refine m_take_on hF 25 (bA 43 67108863) rfl rfl rfl rfl (xf hc_6) rfl rfl h (hS.sub .ii) (v := .bool (x1.From != x0_source)) (fun w hS => r_cmp (b := (x1.From != x0_source)) h rfl rfl (.inr (.inl ⟨rfl, rfl⟩))) fun a h=>m_take hF 26 (bA 43 134217727) rfl rfl rfl rfl h (hS.sub .ii) (v := .bool (x1.From != x0_source)) (fun w hS => r_pick_f h rfl (xf hc_6) rfl) fun a h=>m_take hF 27 (bA 43 268435455) rfl rfl rfl rfl h (hS.sub .ii) (v := .bool (x1.From != x0_source)) (fun w hS => r_move h rfl) fun a h=>?_
    obtain ⟨hc_7, H⟩ | ⟨hc_7, H⟩ := ii H
    ·refine m_take_on hF 28 (bA 43 536870911) rfl rfl rfl rfl (xf hc_7) rfl rfl h (hS.sub .ii) (v := .pointer (some ⟨g_1, 9, none⟩)) (fun w hS => r_fieldAddr h U56 rfl ti3 rfl rfl rfl) fun a h=>m_take_on hF 29 (bA 43 1073741823) rfl rfl rfl rfl (xf hc_7) rfl rfl h (hS.sub .ii) (v := iV x1.At) (fun w hS => r_load h rfl (hS.load_one (p := 2) rfl U3 rfl rfl)) fun a h=>m_take_on hF 30 (bA 43 2147483647) rfl rfl rfl rfl (xf hc_7) rfl rfl h (hS.sub .ii) (v := .pointer (some ⟨g0, 0, none⟩)) (fun w hS => r_move h rfl) fun a h=>m_take_on hF 31 (bA 43 4294967295) rfl rfl rfl rfl (xf hc_7) rfl rfl h (hS.sub .ii) (v := .pointer (some ⟨g0, 0, none⟩)) (fun w hS => r_nilCheck h rfl) fun a h=>m_take_on hF 32 (bA 43 8589934591) rfl rfl rfl rfl (xf hc_7) rfl rfl h (hS.sub .ii) (v := .pointer (some ⟨g0, 3, none⟩)) (fun w hS => r_fieldAddr h U109 rfl ti22 rfl rfl rfl) fun a h=>m_take_on hF 33 (bA 43 17179869183) rfl rfl rfl rfl (xf hc_7) rfl rfl h (hS.sub .ii) (v := p0_0) (fun w hS => r_load h rfl (hS.load_one (p := 1) rfl U22 rfl rfl)) fun a h=>?_
     refine m_take_on hF 34 (bA 43 34359738367) rfl rfl rfl rfl (xf hc_7) rfl rfl h (hS.sub .ii) (v := iV (x0_b.length : Int)) (fun w hS => r_len h U22 rfl hp0_0) fun a h=>m_take_on hF 35 (bA 43 68719476735) rfl rfl rfl rfl (xf hc_7) rfl rfl h (hS.sub .ii) (v := .bool (x1.At != (x0_b.length : Int))) (fun w hS => r_cmp (b := (x1.At != (x0_b.length : Int))) h rfl rfl (.inr (.inl ⟨rfl, rfl⟩))) fun a h=>m_take hF 36 (bA 43 137438953471) rfl rfl rfl rfl h (hS.sub .ii) (v := .bool (x1.At != (x0_b.length : Int))) (fun w hS => r_pick_f h rfl (xf hc_7) rfl) fun a h=>m_take hF 37 (bA 43 274877906943) rfl rfl rfl rfl h (hS.sub .ii) (v := .bool (x1.At != (x0_b.length : Int))) (fun w hS => r_move h rfl) fun a h=>?_
     obtain ⟨hc_8, H⟩ | ⟨hc_8, H⟩ := ii H
     ·refine m_take_on hF 38 (bA 43 549755813887) rfl rfl rfl rfl (xf hc_8) rfl rfl h (hS.sub .ii) (v := .pointer (some ⟨g_1, 11, none⟩)) (fun w hS => r_fieldAddr h U56 rfl ti22 rfl rfl rfl) fun a h=>m_take_on hF 39 (bA 43 1099511627775) rfl rfl rfl rfl (xf hc_8) rfl rfl h (hS.sub .ii) (v := p1_1) (fun w hS => r_load h rfl (hS.load_one (p := 2) rfl U22 rfl rfl)) fun a h=>m_take_on hF 40 (bA 43 2199023255551) rfl rfl rfl rfl (xf hc_8) rfl rfl h (hS.sub .ii) (v := iV (x1.Data.length : Int)) (fun w hS => r_len h U22 rfl hp1_1) fun a h=>m_take_on hF 41 (bA 43 4398046511103) rfl rfl rfl rfl (xf hc_8) rfl rfl h (hS.sub .ii) (v := .bool ((x1.Data.length : Int) == 0)) (fun w hS => r_cmp (b := ((x1.Data.length : Int) == 0)) h rfl rfl (.inl ⟨rfl, rfl⟩)) fun a h=>m_take hF 42 (bA 43 8796093022207) rfl rfl rfl rfl h (hS.sub .ii) (v := .bool ((x1.Data.length : Int) == 0)) (fun w hS => r_pick_f h rfl (xf hc_8) rfl) fun a h=>h_done (by kernel_rfl) ?_
      exact x_then_n (hJ_j_1 ((x1.Data.length : Int) == 0) H _ _ ⟨Mem.no, (h.to rfl), (hS.sel [0, 1, 2] (by decide)), mr⟩)
     ·refine m_take_off hF 38 (bA 43 549755813887) rfl rfl rfl rfl (.inl (congrArg Value.bool (xt hc_8))) rfl rfl h (hS.sub .ii) fun a h=>m_take_off hF 39 (bA 43 1099511627775) rfl rfl rfl rfl (.inl (congrArg Value.bool (xt hc_8))) rfl rfl h (hS.sub .ii) fun a h=>m_take_off hF 40 (bA 43 2199023255551) rfl rfl rfl rfl (.inl (congrArg Value.bool (xt hc_8))) rfl rfl h (hS.sub .ii) fun a h=>m_take_off hF 41 (bA 43 4398046511103) rfl rfl rfl rfl (.inl (congrArg Value.bool (xt hc_8))) rfl rfl h (hS.sub .ii) fun a h=>m_take hF 42 (bA 43 8796093022207) rfl rfl rfl rfl h (hS.sub .ii) (v := .bool true) (fun w hS => r_pick_t h rfl (xt hc_8) rfl) fun a h=>h_done (by kernel_rfl) ?_
      exact x_then_n (hJ_j_1 true H _ _ ⟨Mem.no, (h.to rfl), (hS.sel [0, 1, 2] (by decide)), mr⟩)
    ·refine m_take_off hF 28 (bA 43 536870911) rfl rfl rfl rfl (.inl (congrArg Value.bool (xt hc_7))) rfl rfl h (hS.sub .ii) fun a h=>m_take_off hF 29 (bA 43 1073741823) rfl rfl rfl rfl (.inl (congrArg Value.bool (xt hc_7))) rfl rfl h (hS.sub .ii) fun a h=>m_take_off hF 30 (bA 43 2147483647) rfl rfl rfl rfl (.inl (congrArg Value.bool (xt hc_7))) rfl rfl h (hS.sub .ii) fun a h=>m_take_off hF 31 (bA 43 4294967295) rfl rfl rfl rfl (.inl (congrArg Value.bool (xt hc_7))) rfl rfl h (hS.sub .ii) fun a h=>m_take_off hF 32 (bA 43 8589934591) rfl rfl rfl rfl (.inl (congrArg Value.bool (xt hc_7))) rfl rfl h (hS.sub .ii) fun a h=>m_take_off hF 33 (bA 43 17179869183) rfl rfl rfl rfl (.inl (congrArg Value.bool (xt hc_7))) rfl rfl h (hS.sub .ii) fun a h=>m_take_off hF 34 (bA 43 34359738367) rfl rfl rfl rfl (.inl (congrArg Value.bool (xt hc_7))) rfl rfl h (hS.sub .ii) fun a h=>m_take_off hF 35 (bA 43 68719476735) rfl rfl rfl rfl (.inl (congrArg Value.bool (xt hc_7))) rfl rfl h (hS.sub .ii) fun a h=>m_take hF 36 (bA 43 137438953471) rfl rfl rfl rfl h (hS.sub .ii) (v := .bool true) (fun w hS => r_pick_t h rfl (xt hc_7) rfl) fun a h=>?_
     refine m_take hF 37 (bA 43 274877906943) rfl rfl rfl rfl h (hS.sub .ii) (v := .bool true) (fun w hS => r_move h rfl) fun a h=>m_take_off hF 38 (bA 43 549755813887) rfl rfl rfl rfl (.inl (congrArg Value.bool rfl)) rfl rfl h (hS.sub .ii) fun a h=>m_take_off hF 39 (bA 43 1099511627775) rfl rfl rfl rfl (.inl (congrArg Value.bool rfl)) rfl rfl h (hS.sub .ii) fun a h=>m_take_off hF 40 (bA 43 2199023255551) rfl rfl rfl rfl (.inl (congrArg Value.bool rfl)) rfl rfl h (hS.sub .ii) fun a h=>m_take_off hF 41 (bA 43 4398046511103) rfl rfl rfl rfl (.inl (congrArg Value.bool rfl)) rfl rfl h (hS.sub .ii) fun a h=>m_take hF 42 (bA 43 8796093022207) rfl rfl rfl rfl h (hS.sub .ii) (v := .bool true) (fun w hS => r_pick_t h rfl rfl rfl) fun a h=>h_done (by kernel_rfl) ?_
     exact x_then_n (hJ_j_1 true H _ _ ⟨Mem.no, (h.to rfl), (hS.sel [0, 1, 2] (by decide)), mr⟩)
   ·refine m_take_off hF 19 (bA 43 1048575) rfl rfl rfl rfl (.inl (congrArg Value.bool (xt hc_6))) rfl rfl h (hS.sub .ii) fun a h=>m_take_off hF 20 (bA 43 2097151) rfl rfl rfl rfl (.inl (congrArg Value.bool (xt hc_6))) rfl rfl h (hS.sub .ii) fun a h=>m_take_off hF 21 (bA 43 4194303) rfl rfl rfl rfl (.inl (congrArg Value.bool (xt hc_6))) rfl rfl h (hS.sub .ii) fun a h=>m_take_off hF 22 (bA 43 8388607) rfl rfl rfl rfl (.inl (congrArg Value.bool (xt hc_6))) rfl rfl h (hS.sub .ii) fun a h=>m_take_off hF 23 (bA 43 16777215) rfl rfl rfl rfl (.inl (congrArg Value.bool (xt hc_6))) rfl rfl h (hS.sub .ii) fun a h=>m_take_off hF 24 (bA 43 33554431) rfl rfl rfl rfl (.inl (congrArg Value.bool (xt hc_6))) rfl rfl h (hS.sub .ii) fun a h=>m_take_off hF 25 (bA 43 67108863) rfl rfl rfl rfl (.inl (congrArg Value.bool (xt hc_6))) rfl rfl h (hS.sub .ii) fun a h=>m_take hF 26 (bA 43 134217727) rfl rfl rfl rfl h (hS.sub .ii) (v := .bool true) (fun w hS => r_pick_t h rfl (xt hc_6) rfl) fun a h=>m_take hF 27 (bA 43 268435455) rfl rfl rfl rfl h (hS.sub .ii) (v := .bool true) (fun w hS => r_move h rfl) fun a h=>?_
    refine m_take_off hF 28 (bA 43 536870911) rfl rfl rfl rfl (.inl (congrArg Value.bool rfl)) rfl rfl h (hS.sub .ii) fun a h=>m_take_off hF 29 (bA 43 1073741823) rfl rfl rfl rfl (.inl (congrArg Value.bool rfl)) rfl rfl h (hS.sub .ii) fun a h=>m_take_off hF 30 (bA 43 2147483647) rfl rfl rfl rfl (.inl (congrArg Value.bool rfl)) rfl rfl h (hS.sub .ii) fun a h=>m_take_off hF 31 (bA 43 4294967295) rfl rfl rfl rfl (.inl (congrArg Value.bool rfl)) rfl rfl h (hS.sub .ii) fun a h=>m_take_off hF 32 (bA 43 8589934591) rfl rfl rfl rfl (.inl (congrArg Value.bool rfl)) rfl rfl h (hS.sub .ii) fun a h=>m_take_off hF 33 (bA 43 17179869183) rfl rfl rfl rfl (.inl (congrArg Value.bool rfl)) rfl rfl h (hS.sub .ii) fun a h=>m_take_off hF 34 (bA 43 34359738367) rfl rfl rfl rfl (.inl (congrArg Value.bool rfl)) rfl rfl h (hS.sub .ii) fun a h=>m_take_off hF 35 (bA 43 68719476735) rfl rfl rfl rfl (.inl (congrArg Value.bool rfl)) rfl rfl h (hS.sub .ii) fun a h=>m_take hF 36 (bA 43 137438953471) rfl rfl rfl rfl h (hS.sub .ii) (v := .bool true) (fun w hS => r_pick_t h rfl rfl rfl) fun a h=>m_take hF 37 (bA 43 274877906943) rfl rfl rfl rfl h (hS.sub .ii) (v := .bool true) (fun w hS => r_move h rfl) fun a h=>?_
    refine m_take_off hF 38 (bA 43 549755813887) rfl rfl rfl rfl (.inl (congrArg Value.bool rfl)) rfl rfl h (hS.sub .ii) fun a h=>m_take_off hF 39 (bA 43 1099511627775) rfl rfl rfl rfl (.inl (congrArg Value.bool rfl)) rfl rfl h (hS.sub .ii) fun a h=>m_take_off hF 40 (bA 43 2199023255551) rfl rfl rfl rfl (.inl (congrArg Value.bool rfl)) rfl rfl h (hS.sub .ii) fun a h=>m_take_off hF 41 (bA 43 4398046511103) rfl rfl rfl rfl (.inl (congrArg Value.bool rfl)) rfl rfl h (hS.sub .ii) fun a h=>m_take hF 42 (bA 43 8796093022207) rfl rfl rfl rfl h (hS.sub .ii) (v := .bool true) (fun w hS => r_pick_t h rfl rfl rfl) fun a h=>h_done (by kernel_rfl) ?_
    exact x_then_n (hJ_j_1 true H _ _ ⟨Mem.no, (h.to rfl), (hS.sel [0, 1, 2] (by decide)), mr⟩)
  ·refine m_take_off hF 10 (bA 43 2047) rfl rfl rfl rfl (.inl (congrArg Value.bool (xt hc_5))) rfl rfl h (hS.sub .ii) fun a h=>m_take_off hF 11 (bA 43 4095) rfl rfl rfl rfl (.inl (congrArg Value.bool (xt hc_5))) rfl rfl h (hS.sub .ii) fun a h=>m_take_off hF 12 (bA 43 8191) rfl rfl rfl rfl (.inl (congrArg Value.bool (xt hc_5))) rfl rfl h (hS.sub .ii) fun a h=>m_take_off hF 13 (bA 43 16383) rfl rfl rfl rfl (.inl (congrArg Value.bool (xt hc_5))) rfl rfl h (hS.sub .ii) fun a h=>m_take_off hF 14 (bA 43 32767) rfl rfl rfl rfl (.inl (congrArg Value.bool (xt hc_5))) rfl rfl h (hS.sub .ii) fun a h=>m_take_off hF 15 (bA 43 65535) rfl rfl rfl rfl (.inl (congrArg Value.bool (xt hc_5))) rfl rfl h (hS.sub .ii) fun a h=>m_take_off hF 16 (bA 43 131071) rfl rfl rfl rfl (.inl (congrArg Value.bool (xt hc_5))) rfl rfl h (hS.sub .ii) fun a h=>m_take hF 17 (bA 43 262143) rfl rfl rfl rfl h (hS.sub .ii) (v := .bool true) (fun w hS => r_pick_t h rfl (xt hc_5) rfl) fun a h=>m_take hF 18 (bA 43 524287) rfl rfl rfl rfl h (hS.sub .ii) (v := .bool true) (fun w hS => r_move h rfl) fun a h=>?_
   refine m_take_off hF 19 (bA 43 1048575) rfl rfl rfl rfl (.inl (congrArg Value.bool rfl)) rfl rfl h (hS.sub .ii) fun a h=>m_take_off hF 20 (bA 43 2097151) rfl rfl rfl rfl (.inl (congrArg Value.bool rfl)) rfl rfl h (hS.sub .ii) fun a h=>m_take_off hF 21 (bA 43 4194303) rfl rfl rfl rfl (.inl (congrArg Value.bool rfl)) rfl rfl h (hS.sub .ii) fun a h=>m_take_off hF 22 (bA 43 8388607) rfl rfl rfl rfl (.inl (congrArg Value.bool rfl)) rfl rfl h (hS.sub .ii) fun a h=>m_take_off hF 23 (bA 43 16777215) rfl rfl rfl rfl (.inl (congrArg Value.bool rfl)) rfl rfl h (hS.sub .ii) fun a h=>m_take_off hF 24 (bA 43 33554431) rfl rfl rfl rfl (.inl (congrArg Value.bool rfl)) rfl rfl h (hS.sub .ii) fun a h=>m_take_off hF 25 (bA 43 67108863) rfl rfl rfl rfl (.inl (congrArg Value.bool rfl)) rfl rfl h (hS.sub .ii) fun a h=>m_take hF 26 (bA 43 134217727) rfl rfl rfl rfl h (hS.sub .ii) (v := .bool true) (fun w hS => r_pick_t h rfl rfl rfl) fun a h=>m_take hF 27 (bA 43 268435455) rfl rfl rfl rfl h (hS.sub .ii) (v := .bool true) (fun w hS => r_move h rfl) fun a h=>m_take_off hF 28 (bA 43 536870911) rfl rfl rfl rfl (.inl (congrArg Value.bool rfl)) rfl rfl h (hS.sub .ii) fun a h=>?_
   refine m_take_off hF 29 (bA 43 1073741823) rfl rfl rfl rfl (.inl (congrArg Value.bool rfl)) rfl rfl h (hS.sub .ii) fun a h=>m_take_off hF 30 (bA 43 2147483647) rfl rfl rfl rfl (.inl (congrArg Value.bool rfl)) rfl rfl h (hS.sub .ii) fun a h=>m_take_off hF 31 (bA 43 4294967295) rfl rfl rfl rfl (.inl (congrArg Value.bool rfl)) rfl rfl h (hS.sub .ii) fun a h=>m_take_off hF 32 (bA 43 8589934591) rfl rfl rfl rfl (.inl (congrArg Value.bool rfl)) rfl rfl h (hS.sub .ii) fun a h=>m_take_off hF 33 (bA 43 17179869183) rfl rfl rfl rfl (.inl (congrArg Value.bool rfl)) rfl rfl h (hS.sub .ii) fun a h=>m_take_off hF 34 (bA 43 34359738367) rfl rfl rfl rfl (.inl (congrArg Value.bool rfl)) rfl rfl h (hS.sub .ii) fun a h=>m_take_off hF 35 (bA 43 68719476735) rfl rfl rfl rfl (.inl (congrArg Value.bool rfl)) rfl rfl h (hS.sub .ii) fun a h=>m_take hF 36 (bA 43 137438953471) rfl rfl rfl rfl h (hS.sub .ii) (v := .bool true) (fun w hS => r_pick_t h rfl rfl rfl) fun a h=>m_take hF 37 (bA 43 274877906943) rfl rfl rfl rfl h (hS.sub .ii) (v := .bool true) (fun w hS => r_move h rfl) fun a h=>m_take_off hF 38 (bA 43 549755813887) rfl rfl rfl rfl (.inl (congrArg Value.bool rfl)) rfl rfl h (hS.sub .ii) fun a h=>?_
   refine m_take_off hF 39 (bA 43 1099511627775) rfl rfl rfl rfl (.inl (congrArg Value.bool rfl)) rfl rfl h (hS.sub .ii) fun a h=>m_take_off hF 40 (bA 43 2199023255551) rfl rfl rfl rfl (.inl (congrArg Value.bool rfl)) rfl rfl h (hS.sub .ii) fun a h=>m_take_off hF 41 (bA 43 4398046511103) rfl rfl rfl rfl (.inl (congrArg Value.bool rfl)) rfl rfl h (hS.sub .ii) fun a h=>m_take hF 42 (bA 43 8796093022207) rfl rfl rfl rfl h (hS.sub .ii) (v := .bool true) (fun w hS => r_pick_t h rfl rfl rfl) fun a h=>h_done (by kernel_rfl) ?_
   exact x_then_n (hJ_j_1 true H _ _ ⟨Mem.no, (h.to rfl), (hS.sel [0, 1, 2] (by decide)), mr⟩)

set_option maxHeartbeats 4000000 in
set_option maxRecDepth 20000 in
theorem hocketref11_Same.calls (K : Nat) (x0 : api_Msg) (p0_0 : Value) (p0_1 : Value) (p0_2 : Value) (p0_3 : Value) (p0_4 : Value) (p0_5 : Value) (x1 : api_Msg) (p1_6 : Value) (p1_7 : Value) (p1_8 : Value) (p1_9 : Value) (p1_10 : Value) (p1_11 : Value) (r : Bool) (w0 w : World) (Z A : Mem) (hA : A.le Z) (hS : Sep w0 w [] Z) (hp0_0 : Rd Kd.u8 A p0_0 x0.Data) (hp0_1 : Rd (Kd.int .i64) A p0_1 x0.Have) (hp0_2 : Rd (Kd.int .i64) A p0_2 x0.Need) (hp0_3 : Rd Kd.u8 A p0_3 x0.Entry.Cmd.Key) (hp0_4 : Rd Kd.u8 A p0_4 x0.Entry.Cmd.Val) (hp0_5 : Rd Kd.u8 A p0_5 x0.Entry.Cmd.Old) (hp1_6 : Rd Kd.u8 A p1_6 x1.Data) (hp1_7 : Rd (Kd.int .i64) A p1_7 x1.Have) (hp1_8 : Rd (Kd.int .i64) A p1_8 x1.Need) (hp1_9 : Rd Kd.u8 A p1_9 x1.Entry.Cmd.Key) (hp1_10 : Rd Kd.u8 A p1_10 x1.Entry.Cmd.Val) (hp1_11 : Rd Kd.u8 A p1_11 x1.Entry.Cmd.Old)
    (H : hocketref11_Same.f K x0 x1 = some r) :
    Calls Try.prog 49 [.agg (E56 x0 p0_0 p0_1 p0_2 p0_3 p0_4 p0_5).toArray, .agg (E56 x1 p1_6 p1_7 p1_8 p1_9 p1_10 p1_11).toArray].toArray w (Ret fun v w' => ∃ (N : Mem), v = .bool r ∧ Sep w0 w' [N] Z) := by
 unfold hocketref11_Same.f at H
 refine f_enter _ Try.func49 rfl Try.ntmps49 rfl fun a h=>?_
 replace h : Fr 131 a [(0, .agg (E56 x0 p0_0 p0_1 p0_2 p0_3 p0_4 p0_5).toArray), (1, .agg (E56 x1 p1_6 p1_7 p1_8 p1_9 p1_10 p1_11).toArray)] := h
 replace hS := hS.start
 refine qr <| v_box (vs := (E56 x0 p0_0 p0_1 p0_2 p0_3 p0_4 p0_5)) h rfl rfl rfl hS fun w_1 g_1 hS' a h => ?_
 replace hS : Sep w0 w_1 [_, bx g_1 56 (E56 x0 p0_0 p0_1 p0_2 p0_3 p0_4 p0_5)] Z := hS'
 refine v_box (vs := (E56 x1 p1_6 p1_7 p1_8 p1_9 p1_10 p1_11)) h rfl rfl rfl hS fun w_2 g_2 hS' a h => ?_
 replace hS : Sep w0 w_2 [_, _, bx g_2 56 (E56 x1 p1_6 p1_7 p1_8 p1_9 p1_10 p1_11)] Z := hS'
 refine sg h rfl fun a h=>nx <| c_seq fun KJ_1 hKJ_1 => wp_region_lit <| s_fieldAddr h rfl U56 rfl ti3 rfl rfl fun a h=>s_load h rfl rfl (hS.load_one (p := 1) rfl U3 rfl rfl) fun a h=>s_fieldAddr h rfl U56 rfl ti3 rfl rfl fun a h=>s_load h rfl rfl (hS.load_one (p := 2) rfl U3 rfl rfl) fun a h=>s_cmp (b := (x0.Kind == x1.Kind)) h rfl rfl rfl (.inl ⟨rfl, rfl⟩) fun a h=>mv h rfl fun a h=>?_
 obtain ⟨hc_1, H⟩ | ⟨hc_1, H⟩ := ii H
 ·refine s_on h rfl rfl (bt hc_1) <| s_fieldAddr h rfl U56 rfl ti3 rfl rfl fun a h=>s_on h rfl rfl (bt hc_1) <| s_load h rfl rfl (hS.load_one (p := 1) rfl U3 rfl rfl) fun a h=>s_on h rfl rfl (bt hc_1) <| s_fieldAddr h rfl U56 rfl ti3 rfl rfl fun a h=>s_on h rfl rfl (bt hc_1) <| s_load h rfl rfl (hS.load_one (p := 2) rfl U3 rfl rfl) fun a h=>s_on h rfl rfl (bt hc_1) <| s_cmp (b := (x0.From == x1.From)) h rfl rfl rfl (.inl ⟨rfl, rfl⟩) fun a h=>pt h rfl (bt hc_1) fun a h=>mv h rfl fun a h=>?_
  obtain ⟨hc_2, H⟩ | ⟨hc_2, H⟩ := ii H
  ·refine s_on h rfl rfl (bt hc_2) <| s_fieldAddr h rfl U56 rfl ti3 rfl rfl fun a h=>s_on h rfl rfl (bt hc_2) <| s_load h rfl rfl (hS.load_one (p := 1) rfl U3 rfl rfl) fun a h=>s_on h rfl rfl (bt hc_2) <| s_fieldAddr h rfl U56 rfl ti3 rfl rfl fun a h=>s_on h rfl rfl (bt hc_2) <| s_load h rfl rfl (hS.load_one (p := 2) rfl U3 rfl rfl) fun a h=>s_on h rfl rfl (bt hc_2) <| s_cmp (b := (x0.To == x1.To)) h rfl rfl rfl (.inl ⟨rfl, rfl⟩) fun a h=>pt h rfl (bt hc_2) fun a h=>mv h rfl fun a h=>?_
   obtain ⟨hc_3, H⟩ | ⟨hc_3, H⟩ := ii H
   ·refine s_on h rfl rfl (bt hc_3) <| s_fieldAddr h rfl U56 rfl ti3 rfl rfl fun a h=>s_on h rfl rfl (bt hc_3) <| s_load h rfl rfl (hS.load_one (p := 1) rfl U3 rfl rfl) fun a h=>s_on h rfl rfl (bt hc_3) <| s_fieldAddr h rfl U56 rfl ti3 rfl rfl fun a h=>s_on h rfl rfl (bt hc_3) <| s_load h rfl rfl (hS.load_one (p := 2) rfl U3 rfl rfl) fun a h=>s_on h rfl rfl (bt hc_3) <| s_cmp (b := (x0.View == x1.View)) h rfl rfl rfl (.inl ⟨rfl, rfl⟩) fun a h=>pt h rfl (bt hc_3) fun a h=>mv h rfl fun a h=>?_
    obtain ⟨hc_4, H⟩ | ⟨hc_4, H⟩ := ii H
    ·refine s_on h rfl rfl (bt hc_4) <| s_fieldAddr h rfl U56 rfl ti3 rfl rfl fun a h=>s_on h rfl rfl (bt hc_4) <| s_load h rfl rfl (hS.load_one (p := 1) rfl U3 rfl rfl) fun a h=>s_on h rfl rfl (bt hc_4) <| s_fieldAddr h rfl U56 rfl ti3 rfl rfl fun a h=>s_on h rfl rfl (bt hc_4) <| s_load h rfl rfl (hS.load_one (p := 2) rfl U3 rfl rfl) fun a h=>s_on h rfl rfl (bt hc_4) <| s_cmp (b := (x0.Inst == x1.Inst)) h rfl rfl rfl (.inl ⟨rfl, rfl⟩) fun a h=>pt h rfl (bt hc_4) fun a h=>mv h rfl fun a h=>?_
     obtain ⟨hc_5, H⟩ | ⟨hc_5, H⟩ := ii H
     ·refine s_on h rfl rfl (bt hc_5) <| s_fieldAddr h rfl U56 rfl ti3 rfl rfl fun a h=>s_on h rfl rfl (bt hc_5) <| s_load h rfl rfl (hS.load_one (p := 1) rfl U3 rfl rfl) fun a h=>s_on h rfl rfl (bt hc_5) <| s_fieldAddr h rfl U56 rfl ti3 rfl rfl fun a h=>s_on h rfl rfl (bt hc_5) <| s_load h rfl rfl (hS.load_one (p := 2) rfl U3 rfl rfl) fun a h=>s_on h rfl rfl (bt hc_5) <| s_cmp (b := (x0.Len == x1.Len)) h rfl rfl rfl (.inl ⟨rfl, rfl⟩) fun a h=>pt h rfl (bt hc_5) fun a h=>mv h rfl fun a h=>?_
      obtain ⟨hc_6, H⟩ | ⟨hc_6, H⟩ := ii H
      ·refine s_on h rfl rfl (bt hc_6) <| s_fieldAddr h rfl U56 rfl ti4 rfl rfl fun a h=>s_on h rfl rfl (bt hc_6) <| s_load h rfl rfl (hS.load_one (p := 1) rfl U4 rfl rfl) fun a h=>s_on h rfl rfl (bt hc_6) <| s_fieldAddr h rfl U56 rfl ti4 rfl rfl fun a h=>s_on h rfl rfl (bt hc_6) <| s_load h rfl rfl (hS.load_one (p := 2) rfl U4 rfl rfl) fun a h=>s_on h rfl rfl (bt hc_6) <| s_beq (b := (x0.Has == x1.Has)) h rfl U4 rfl rfl (.inl ⟨rfl, rfl⟩) fun a h=>pt h rfl (bt hc_6) fun a h=>mv h rfl fun a h=>?_
       obtain ⟨hc_7, H⟩ | ⟨hc_7, H⟩ := ii H
       ·refine s_on h rfl rfl (bt hc_7) <| s_fieldAddr h rfl U56 rfl ti3 rfl rfl fun a h=>s_on h rfl rfl (bt hc_7) <| s_load h rfl rfl (hS.load_one (p := 1) rfl U3 rfl rfl) fun a h=>s_on h rfl rfl (bt hc_7) <| s_fieldAddr h rfl U56 rfl ti3 rfl rfl fun a h=>s_on h rfl rfl (bt hc_7) <| s_load h rfl rfl (hS.load_one (p := 2) rfl U3 rfl rfl) fun a h=>s_on h rfl rfl (bt hc_7) <| s_cmp (b := (x0.Members == x1.Members)) h rfl rfl rfl (.inl ⟨rfl, rfl⟩) fun a h=>pt h rfl (bt hc_7) fun a h=>mv h rfl fun a h=>?_
        obtain ⟨hc_8, H⟩ | ⟨hc_8, H⟩ := ii H
        ·refine s_on h rfl rfl (bt hc_8) <| s_fieldAddr h rfl U56 rfl ti3 rfl rfl fun a h=>s_on h rfl rfl (bt hc_8) <| s_load h rfl rfl (hS.load_one (p := 1) rfl U3 rfl rfl) fun a h=>s_on h rfl rfl (bt hc_8) <| s_fieldAddr h rfl U56 rfl ti3 rfl rfl fun a h=>s_on h rfl rfl (bt hc_8) <| s_load h rfl rfl (hS.load_one (p := 2) rfl U3 rfl rfl) fun a h=>s_on h rfl rfl (bt hc_8) <| s_cmp (b := (x0.Source == x1.Source)) h rfl rfl rfl (.inl ⟨rfl, rfl⟩) fun a h=>pt h rfl (bt hc_8) fun a h=>mv h rfl fun a h=>?_
         obtain ⟨hc_9, H⟩ | ⟨hc_9, H⟩ := ii H
         ·refine s_on h rfl rfl (bt hc_9) <| s_fieldAddr h rfl U56 rfl ti3 rfl rfl fun a h=>s_on h rfl rfl (bt hc_9) <| s_load h rfl rfl (hS.load_one (p := 1) rfl U3 rfl rfl) fun a h=>s_on h rfl rfl (bt hc_9) <| s_fieldAddr h rfl U56 rfl ti3 rfl rfl fun a h=>s_on h rfl rfl (bt hc_9) <| s_load h rfl rfl (hS.load_one (p := 2) rfl U3 rfl rfl) fun a h=>s_on h rfl rfl (bt hc_9) <| s_cmp (b := (x0.At == x1.At)) h rfl rfl rfl (.inl ⟨rfl, rfl⟩) fun a h=>pt h rfl (bt hc_9) fun a h=>mv h rfl fun a h=>?_
          obtain ⟨hc_10, H⟩ | ⟨hc_10, H⟩ := ii H
          ·refine s_on h rfl rfl (bt hc_10) <| s_fieldAddr h rfl U56 rfl ti3 rfl rfl fun a h=>s_on h rfl rfl (bt hc_10) <| s_load h rfl rfl (hS.load_one (p := 1) rfl U3 rfl rfl) fun a h=>s_on h rfl rfl (bt hc_10) <| s_fieldAddr h rfl U56 rfl ti3 rfl rfl fun a h=>s_on h rfl rfl (bt hc_10) <| s_load h rfl rfl (hS.load_one (p := 2) rfl U3 rfl rfl) fun a h=>s_on h rfl rfl (bt hc_10) <| s_cmp (b := (x0.Total == x1.Total)) h rfl rfl rfl (.inl ⟨rfl, rfl⟩) fun a h=>pt h rfl (bt hc_10) fun a h=>mv h rfl fun a h=>?_
           obtain ⟨hc_11, H⟩ | ⟨hc_11, H⟩ := ii H
           ·refine s_on h rfl rfl (bt hc_11) <| s_fieldAddr h rfl U56 rfl ti22 rfl rfl fun a h=>s_on h rfl rfl (bt hc_11) <| s_load h rfl rfl (hS.load_one (p := 1) rfl U22 rfl rfl) fun a h=>s_on h rfl rfl (bt hc_11) <| s_b2s h rfl U22 U5 U9 rfl hp0_0 (hA.trans hS.old) fun a h=>s_on h rfl rfl (bt hc_11) <| s_fieldAddr h rfl U56 rfl ti22 rfl rfl fun a h=>s_on h rfl rfl (bt hc_11) <| s_load h rfl rfl (hS.load_one (p := 2) rfl U22 rfl rfl) fun a h=>s_on h rfl rfl (bt hc_11) <| s_b2s h rfl U22 U5 U9 rfl hp1_6 (hA.trans hS.old) fun a h=>?_
            refine s_on h rfl rfl (bt hc_11) <| s_strEq (b := (x0.Data == x1.Data)) h rfl rfl rfl (.inl ⟨rfl, rfl⟩) fun a h=>pt h rfl (bt hc_11) fun a h=>mv h rfl fun a h=>?_
            obtain ⟨hc_12, H⟩ | ⟨hc_12, H⟩ := ii H
            ·refine s_on h rfl rfl (bt hc_12) <| s_fieldAddr h rfl U56 rfl ti3 rfl rfl fun a h=>s_on h rfl rfl (bt hc_12) <| s_load h rfl rfl (hS.load_one (p := 1) rfl U3 rfl rfl) fun a h=>s_on h rfl rfl (bt hc_12) <| s_fieldAddr h rfl U56 rfl ti3 rfl rfl fun a h=>s_on h rfl rfl (bt hc_12) <| s_load h rfl rfl (hS.load_one (p := 2) rfl U3 rfl rfl) fun a h=>s_on h rfl rfl (bt hc_12) <| s_cmp (b := (x0.Hop == x1.Hop)) h rfl rfl rfl (.inl ⟨rfl, rfl⟩) fun a h=>pt h rfl (bt hc_12) fun a h=>mv h rfl fun a h=>?_
             obtain ⟨hc_13, H⟩ | ⟨hc_13, H⟩ := ii H
             ·refine s_on h rfl rfl (bt hc_13) <| s_fieldAddr h rfl U56 rfl ti3 rfl rfl fun a h=>s_on h rfl rfl (bt hc_13) <| s_load h rfl rfl (hS.load_one (p := 1) rfl U3 rfl rfl) fun a h=>s_on h rfl rfl (bt hc_13) <| s_fieldAddr h rfl U56 rfl ti3 rfl rfl fun a h=>s_on h rfl rfl (bt hc_13) <| s_load h rfl rfl (hS.load_one (p := 2) rfl U3 rfl rfl) fun a h=>s_on h rfl rfl (bt hc_13) <| s_cmp (b := (x0.Seq == x1.Seq)) h rfl rfl rfl (.inl ⟨rfl, rfl⟩) fun a h=>pt h rfl (bt hc_13) fun a h=>mv h rfl fun a h=>?_
              obtain ⟨hc_14, H⟩ | ⟨hc_14, H⟩ := ii H
              ·refine s_on h rfl rfl (bt hc_14) <| s_fieldAddr h rfl U56 rfl ti29 rfl rfl fun a h=>s_on h rfl rfl (bt hc_14) <| s_load h rfl rfl (hS.load_one (p := 1) rfl U29 rfl rfl) fun a h=>s_on h rfl rfl (bt hc_14) <| s_fieldAddr h rfl U56 rfl ti29 rfl rfl fun a h=>s_on h rfl rfl (bt hc_14) <| s_load h rfl rfl (hS.load_one (p := 2) rfl U29 rfl rfl) fun a h=>s_on h rfl rfl (bt hc_14) ?_
               obtain ⟨t_1, et_1, H⟩ := bs H
               refine s_call h rfl Try.call66 rfl (hocketref1_SameInts.calls K x0.Have _ x1.Have _ t_1 w0 _ _ _ mr (hS.enter [] (by decide)) (hp0_1.mono (hA.trans (hS.le_zed []))) (hp1_7.mono (hA.trans (hS.le_zed []))) et_1) ?_
               rintro _ w_3 ⟨N_1, rfl, hS'⟩
               intro a h
               obtain ⟨N_2, hS'', le_1, ln_1⟩ := hS.call [] (by decide) rfl (l' := []) (ow := []) rfl hS'
               replace hS : Sep w0 w_3 [N_2, _, _] Z := hS''
               refine pt h rfl (bt hc_14) fun a h=>mv h rfl fun a h=>?_
               obtain ⟨hc_15, H⟩ | ⟨hc_15, H⟩ := ii H
               ·refine s_on h rfl rfl hc_15 <| s_fieldAddr h rfl U56 rfl ti29 rfl rfl fun a h=>s_on h rfl rfl hc_15 <| s_load h rfl rfl (hS.load_one (p := 1) rfl U29 rfl rfl) fun a h=>s_on h rfl rfl hc_15 <| s_fieldAddr h rfl U56 rfl ti29 rfl rfl fun a h=>s_on h rfl rfl hc_15 <| s_load h rfl rfl (hS.load_one (p := 2) rfl U29 rfl rfl) fun a h=>s_on h rfl rfl hc_15 ?_
                obtain ⟨t_2, et_2, H⟩ := bs H
                refine s_call h rfl Try.call66 rfl (hocketref1_SameInts.calls K x0.Need _ x1.Need _ t_2 w0 _ _ _ mr (hS.enter [] (by decide)) (hp0_2.mono (hA.trans (hS.le_zed []))) (hp1_8.mono (hA.trans (hS.le_zed []))) et_2) ?_
                rintro _ w_4 ⟨N_3, rfl, hS'⟩
                intro a h
                obtain ⟨N_4, hS'', le_2, ln_2⟩ := hS.call [] (by decide) rfl (l' := []) (ow := []) rfl hS'
                replace hS : Sep w0 w_4 [N_4, _, _] Z := hS''
                refine pt h rfl hc_15 fun a h=>mv h rfl fun a h=>?_
                obtain ⟨hc_16, H⟩ | ⟨hc_16, H⟩ := ii H
                ·refine s_on h rfl rfl hc_16 <| s_fieldAddr h rfl U56 rfl ti3 rfl rfl fun a h=>s_on h rfl rfl hc_16 <| s_load h rfl rfl (hS.load_one (p := 1) rfl U3 rfl rfl) fun a h=>s_on h rfl rfl hc_16 <| s_fieldAddr h rfl U56 rfl ti3 rfl rfl fun a h=>s_on h rfl rfl hc_16 <| s_load h rfl rfl (hS.load_one (p := 2) rfl U3 rfl rfl) fun a h=>s_on h rfl rfl hc_16 <| s_cmp (b := (x0.Index == x1.Index)) h rfl rfl rfl (.inl ⟨rfl, rfl⟩) fun a h=>pt h rfl hc_16 fun a h=>mv h rfl fun a h=>?_
                 obtain ⟨hc_17, H⟩ | ⟨hc_17, H⟩ := ii H
                 ·refine s_on h rfl rfl (bt hc_17) <| s_fieldAddr h rfl U56 rfl ti26 rfl rfl fun a h=>s_on h rfl rfl (bt hc_17) <| s_load h rfl rfl (hS.load_agg (p := 1) (us := (E26 x0.Entry p0_3 p0_4 p0_5)) rfl U26 rfl ti26 rfl rfl) fun a h=>s_on h rfl rfl (bt hc_17) <| s_fieldAddr h rfl U56 rfl ti26 rfl rfl fun a h=>s_on h rfl rfl (bt hc_17) <| s_load h rfl rfl (hS.load_agg (p := 2) (us := (E26 x1.Entry p1_9 p1_10 p1_11)) rfl U26 rfl ti26 rfl rfl) fun a h=>s_on h rfl rfl (bt hc_17) ?_
                  obtain ⟨t_3, et_3, H⟩ := bs H
                  refine s_call h rfl Try.call64 rfl (hocketref4_SameEntry.calls x0.Entry _ _ _ x1.Entry _ _ _ t_3 w0 _ _ _ mr (hS.enter [] (by decide)) (hp0_3.mono (hA.trans (hS.le_zed []))) (hp0_4.mono (hA.trans (hS.le_zed []))) (hp0_5.mono (hA.trans (hS.le_zed []))) (hp1_9.mono (hA.trans (hS.le_zed []))) (hp1_10.mono (hA.trans (hS.le_zed []))) (hp1_11.mono (hA.trans (hS.le_zed []))) et_3) ?_
                  rintro _ w_5 ⟨N_5, rfl, hS'⟩
                  intro a h
                  obtain ⟨N_6, hS'', le_3, ln_3⟩ := hS.call [] (by decide) rfl (l' := []) (ow := []) rfl hS'
                  replace hS : Sep w0 w_5 [N_6, _, _] Z := hS''
                  refine pt h rfl (bt hc_17) fun a h=>sg h rfl fun a h=>wpList_nil <| x_then_n (hKJ_1 _ _ ?_)
                  refine wp_ret ?_
                  obtain rfl := Option.some.inj H
                  exact r1 h 4 rfl rfl ⟨_, rfl, N_6, rfl, (hS.sel [0] (by decide))⟩
                 ·refine of h rfl rfl (bf hc_17) fun a h=>of h rfl rfl (bf hc_17) fun a h=>of h rfl rfl (bf hc_17) fun a h=>of h rfl rfl (bf hc_17) fun a h=>of h rfl rfl (bf hc_17) fun a h=>pf h rfl (bf hc_17) fun a h=>sg h rfl fun a h=>wpList_nil <| x_then_n (hKJ_1 _ _ ?_)
                  refine wp_ret ?_
                  obtain rfl := Option.some.inj H
                  exact r1 h 4 rfl rfl ⟨_, rfl, N_4, rfl, (hS.sel [0] (by decide))⟩
                ·refine of h rfl rfl (ef hc_16) fun a h=>of h rfl rfl (ef hc_16) fun a h=>of h rfl rfl (ef hc_16) fun a h=>of h rfl rfl (ef hc_16) fun a h=>of h rfl rfl (ef hc_16) fun a h=>pf h rfl (ef hc_16) fun a h=>mv h rfl fun a h=>oo h rfl rfl fun a h=>oo h rfl rfl fun a h=>oo h rfl rfl fun a h=>oo h rfl rfl fun a h=>oo h rfl rfl fun a h=>?_
                 refine pf h rfl rfl fun a h=>sg h rfl fun a h=>wpList_nil <| x_then_n (hKJ_1 _ _ ?_)
                 refine wp_ret ?_
                 obtain rfl := Option.some.inj H
                 exact r1 h 4 rfl rfl ⟨_, rfl, N_4, rfl, (hS.sel [0] (by decide))⟩
               ·refine of h rfl rfl (ef hc_15) fun a h=>of h rfl rfl (ef hc_15) fun a h=>of h rfl rfl (ef hc_15) fun a h=>of h rfl rfl (ef hc_15) fun a h=>of h rfl rfl (ef hc_15) fun a h=>pf h rfl (ef hc_15) fun a h=>mv h rfl fun a h=>oo h rfl rfl fun a h=>oo h rfl rfl fun a h=>oo h rfl rfl fun a h=>oo h rfl rfl fun a h=>oo h rfl rfl fun a h=>?_
                refine pf h rfl rfl fun a h=>mv h rfl fun a h=>oo h rfl rfl fun a h=>oo h rfl rfl fun a h=>oo h rfl rfl fun a h=>oo h rfl rfl fun a h=>oo h rfl rfl fun a h=>pf h rfl rfl fun a h=>sg h rfl fun a h=>wpList_nil <| x_then_n (hKJ_1 _ _ ?_)
                refine wp_ret ?_
                obtain rfl := Option.some.inj H
                exact r1 h 4 rfl rfl ⟨_, rfl, N_2, rfl, (hS.sel [0] (by decide))⟩
              ·refine of h rfl rfl (bf hc_14) fun a h=>of h rfl rfl (bf hc_14) fun a h=>of h rfl rfl (bf hc_14) fun a h=>of h rfl rfl (bf hc_14) fun a h=>of h rfl rfl (bf hc_14) fun a h=>pf h rfl (bf hc_14) fun a h=>mv h rfl fun a h=>oo h rfl rfl fun a h=>oo h rfl rfl fun a h=>oo h rfl rfl fun a h=>oo h rfl rfl fun a h=>oo h rfl rfl fun a h=>?_
               refine pf h rfl rfl fun a h=>mv h rfl fun a h=>oo h rfl rfl fun a h=>oo h rfl rfl fun a h=>oo h rfl rfl fun a h=>oo h rfl rfl fun a h=>oo h rfl rfl fun a h=>pf h rfl rfl fun a h=>mv h rfl fun a h=>oo h rfl rfl fun a h=>oo h rfl rfl fun a h=>oo h rfl rfl fun a h=>?_
               refine oo h rfl rfl fun a h=>oo h rfl rfl fun a h=>pf h rfl rfl fun a h=>sg h rfl fun a h=>wpList_nil <| x_then_n (hKJ_1 _ _ ?_)
               refine wp_ret ?_
               obtain rfl := Option.some.inj H
               exact r1 h 4 rfl rfl ⟨_, rfl, Mem.no, rfl, (hS.sel [0] (by decide))⟩
             ·refine of h rfl rfl (bf hc_13) fun a h=>of h rfl rfl (bf hc_13) fun a h=>of h rfl rfl (bf hc_13) fun a h=>of h rfl rfl (bf hc_13) fun a h=>of h rfl rfl (bf hc_13) fun a h=>pf h rfl (bf hc_13) fun a h=>mv h rfl fun a h=>oo h rfl rfl fun a h=>oo h rfl rfl fun a h=>oo h rfl rfl fun a h=>oo h rfl rfl fun a h=>oo h rfl rfl fun a h=>?_
              refine pf h rfl rfl fun a h=>mv h rfl fun a h=>oo h rfl rfl fun a h=>oo h rfl rfl fun a h=>oo h rfl rfl fun a h=>oo h rfl rfl fun a h=>oo h rfl rfl fun a h=>pf h rfl rfl fun a h=>mv h rfl fun a h=>oo h rfl rfl fun a h=>oo h rfl rfl fun a h=>oo h rfl rfl fun a h=>?_
              refine oo h rfl rfl fun a h=>oo h rfl rfl fun a h=>pf h rfl rfl fun a h=>mv h rfl fun a h=>oo h rfl rfl fun a h=>oo h rfl rfl fun a h=>oo h rfl rfl fun a h=>oo h rfl rfl fun a h=>oo h rfl rfl fun a h=>pf h rfl rfl fun a h=>sg h rfl fun a h=>wpList_nil <| x_then_n (hKJ_1 _ _ ?_)
              refine wp_ret ?_
              obtain rfl := Option.some.inj H
              exact r1 h 4 rfl rfl ⟨_, rfl, Mem.no, rfl, (hS.sel [0] (by decide))⟩
            ·refine of h rfl rfl (bf hc_12) fun a h=>of h rfl rfl (bf hc_12) fun a h=>of h rfl rfl (bf hc_12) fun a h=>of h rfl rfl (bf hc_12) fun a h=>of h rfl rfl (bf hc_12) fun a h=>pf h rfl (bf hc_12) fun a h=>mv h rfl fun a h=>oo h rfl rfl fun a h=>oo h rfl rfl fun a h=>oo h rfl rfl fun a h=>oo h rfl rfl fun a h=>oo h rfl rfl fun a h=>?_
             refine pf h rfl rfl fun a h=>mv h rfl fun a h=>oo h rfl rfl fun a h=>oo h rfl rfl fun a h=>oo h rfl rfl fun a h=>oo h rfl rfl fun a h=>oo h rfl rfl fun a h=>pf h rfl rfl fun a h=>mv h rfl fun a h=>oo h rfl rfl fun a h=>oo h rfl rfl fun a h=>oo h rfl rfl fun a h=>?_
             refine oo h rfl rfl fun a h=>oo h rfl rfl fun a h=>pf h rfl rfl fun a h=>mv h rfl fun a h=>oo h rfl rfl fun a h=>oo h rfl rfl fun a h=>oo h rfl rfl fun a h=>oo h rfl rfl fun a h=>oo h rfl rfl fun a h=>pf h rfl rfl fun a h=>mv h rfl fun a h=>oo h rfl rfl fun a h=>?_
             refine oo h rfl rfl fun a h=>oo h rfl rfl fun a h=>oo h rfl rfl fun a h=>oo h rfl rfl fun a h=>pf h rfl rfl fun a h=>sg h rfl fun a h=>wpList_nil <| x_then_n (hKJ_1 _ _ ?_)
             refine wp_ret ?_
             obtain rfl := Option.some.inj H
             exact r1 h 4 rfl rfl ⟨_, rfl, Mem.no, rfl, (hS.sel [0] (by decide))⟩
           ·refine of h rfl rfl (bf hc_11) fun a h=>of h rfl rfl (bf hc_11) fun a h=>of h rfl rfl (bf hc_11) fun a h=>of h rfl rfl (bf hc_11) fun a h=>of h rfl rfl (bf hc_11) fun a h=>of h rfl rfl (bf hc_11) fun a h=>of h rfl rfl (bf hc_11) fun a h=>pf h rfl (bf hc_11) fun a h=>mv h rfl fun a h=>oo h rfl rfl fun a h=>oo h rfl rfl fun a h=>oo h rfl rfl fun a h=>?_
            refine oo h rfl rfl fun a h=>oo h rfl rfl fun a h=>pf h rfl rfl fun a h=>mv h rfl fun a h=>oo h rfl rfl fun a h=>oo h rfl rfl fun a h=>oo h rfl rfl fun a h=>oo h rfl rfl fun a h=>oo h rfl rfl fun a h=>pf h rfl rfl fun a h=>mv h rfl fun a h=>oo h rfl rfl fun a h=>?_
            refine oo h rfl rfl fun a h=>oo h rfl rfl fun a h=>oo h rfl rfl fun a h=>oo h rfl rfl fun a h=>pf h rfl rfl fun a h=>mv h rfl fun a h=>oo h rfl rfl fun a h=>oo h rfl rfl fun a h=>oo h rfl rfl fun a h=>oo h rfl rfl fun a h=>oo h rfl rfl fun a h=>pf h rfl rfl fun a h=>?_
            refine mv h rfl fun a h=>oo h rfl rfl fun a h=>oo h rfl rfl fun a h=>oo h rfl rfl fun a h=>oo h rfl rfl fun a h=>oo h rfl rfl fun a h=>pf h rfl rfl fun a h=>mv h rfl fun a h=>oo h rfl rfl fun a h=>oo h rfl rfl fun a h=>oo h rfl rfl fun a h=>oo h rfl rfl fun a h=>?_
            refine oo h rfl rfl fun a h=>pf h rfl rfl fun a h=>sg h rfl fun a h=>wpList_nil <| x_then_n (hKJ_1 _ _ ?_)
            refine wp_ret ?_
            obtain rfl := Option.some.inj H
            exact r1 h 4 rfl rfl ⟨_, rfl, Mem.no, rfl, (hS.sel [0] (by decide))⟩
          ·refine of h rfl rfl (bf hc_10) fun a h=>of h rfl rfl (bf hc_10) fun a h=>of h rfl rfl (bf hc_10) fun a h=>of h rfl rfl (bf hc_10) fun a h=>of h rfl rfl (bf hc_10) fun a h=>pf h rfl (bf hc_10) fun a h=>mv h rfl fun a h=>oo h rfl rfl fun a h=>oo h rfl rfl fun a h=>oo h rfl rfl fun a h=>oo h rfl rfl fun a h=>oo h rfl rfl fun a h=>?_
           refine oo h rfl rfl fun a h=>oo h rfl rfl fun a h=>pf h rfl rfl fun a h=>mv h rfl fun a h=>oo h rfl rfl fun a h=>oo h rfl rfl fun a h=>oo h rfl rfl fun a h=>oo h rfl rfl fun a h=>oo h rfl rfl fun a h=>pf h rfl rfl fun a h=>mv h rfl fun a h=>oo h rfl rfl fun a h=>?_
           refine oo h rfl rfl fun a h=>oo h rfl rfl fun a h=>oo h rfl rfl fun a h=>oo h rfl rfl fun a h=>pf h rfl rfl fun a h=>mv h rfl fun a h=>oo h rfl rfl fun a h=>oo h rfl rfl fun a h=>oo h rfl rfl fun a h=>oo h rfl rfl fun a h=>oo h rfl rfl fun a h=>pf h rfl rfl fun a h=>?_
           refine mv h rfl fun a h=>oo h rfl rfl fun a h=>oo h rfl rfl fun a h=>oo h rfl rfl fun a h=>oo h rfl rfl fun a h=>oo h rfl rfl fun a h=>pf h rfl rfl fun a h=>mv h rfl fun a h=>oo h rfl rfl fun a h=>oo h rfl rfl fun a h=>oo h rfl rfl fun a h=>oo h rfl rfl fun a h=>?_
           refine oo h rfl rfl fun a h=>pf h rfl rfl fun a h=>mv h rfl fun a h=>oo h rfl rfl fun a h=>oo h rfl rfl fun a h=>oo h rfl rfl fun a h=>oo h rfl rfl fun a h=>oo h rfl rfl fun a h=>pf h rfl rfl fun a h=>sg h rfl fun a h=>wpList_nil <| x_then_n (hKJ_1 _ _ ?_)
           refine wp_ret ?_
           obtain rfl := Option.some.inj H
           exact r1 h 4 rfl rfl ⟨_, rfl, Mem.no, rfl, (hS.sel [0] (by decide))⟩
         ·refine of h rfl rfl (bf hc_9) fun a h=>of h rfl rfl (bf hc_9) fun a h=>of h rfl rfl (bf hc_9) fun a h=>of h rfl rfl (bf hc_9) fun a h=>of h rfl rfl (bf hc_9) fun a h=>pf h rfl (bf hc_9) fun a h=>mv h rfl fun a h=>oo h rfl rfl fun a h=>oo h rfl rfl fun a h=>oo h rfl rfl fun a h=>oo h rfl rfl fun a h=>oo h rfl rfl fun a h=>?_
          refine pf h rfl rfl fun a h=>mv h rfl fun a h=>oo h rfl rfl fun a h=>oo h rfl rfl fun a h=>oo h rfl rfl fun a h=>oo h rfl rfl fun a h=>oo h rfl rfl fun a h=>oo h rfl rfl fun a h=>oo h rfl rfl fun a h=>pf h rfl rfl fun a h=>mv h rfl fun a h=>oo h rfl rfl fun a h=>?_
          refine oo h rfl rfl fun a h=>oo h rfl rfl fun a h=>oo h rfl rfl fun a h=>oo h rfl rfl fun a h=>pf h rfl rfl fun a h=>mv h rfl fun a h=>oo h rfl rfl fun a h=>oo h rfl rfl fun a h=>oo h rfl rfl fun a h=>oo h rfl rfl fun a h=>oo h rfl rfl fun a h=>pf h rfl rfl fun a h=>?_
          refine mv h rfl fun a h=>oo h rfl rfl fun a h=>oo h rfl rfl fun a h=>oo h rfl rfl fun a h=>oo h rfl rfl fun a h=>oo h rfl rfl fun a h=>pf h rfl rfl fun a h=>mv h rfl fun a h=>oo h rfl rfl fun a h=>oo h rfl rfl fun a h=>oo h rfl rfl fun a h=>oo h rfl rfl fun a h=>?_
          refine oo h rfl rfl fun a h=>pf h rfl rfl fun a h=>mv h rfl fun a h=>oo h rfl rfl fun a h=>oo h rfl rfl fun a h=>oo h rfl rfl fun a h=>oo h rfl rfl fun a h=>oo h rfl rfl fun a h=>pf h rfl rfl fun a h=>mv h rfl fun a h=>oo h rfl rfl fun a h=>oo h rfl rfl fun a h=>?_
          refine oo h rfl rfl fun a h=>oo h rfl rfl fun a h=>oo h rfl rfl fun a h=>pf h rfl rfl fun a h=>sg h rfl fun a h=>wpList_nil <| x_then_n (hKJ_1 _ _ ?_)
          refine wp_ret ?_
          obtain rfl := Option.some.inj H
          exact r1 h 4 rfl rfl ⟨_, rfl, Mem.no, rfl, (hS.sel [0] (by decide))⟩
        ·refine of h rfl rfl (bf hc_8) fun a h=>of h rfl rfl (bf hc_8) fun a h=>of h rfl rfl (bf hc_8) fun a h=>of h rfl rfl (bf hc_8) fun a h=>of h rfl rfl (bf hc_8) fun a h=>pf h rfl (bf hc_8) fun a h=>mv h rfl fun a h=>oo h rfl rfl fun a h=>oo h rfl rfl fun a h=>oo h rfl rfl fun a h=>oo h rfl rfl fun a h=>oo h rfl rfl fun a h=>?_
         refine pf h rfl rfl fun a h=>mv h rfl fun a h=>oo h rfl rfl fun a h=>oo h rfl rfl fun a h=>oo h rfl rfl fun a h=>oo h rfl rfl fun a h=>oo h rfl rfl fun a h=>pf h rfl rfl fun a h=>mv h rfl fun a h=>oo h rfl rfl fun a h=>oo h rfl rfl fun a h=>oo h rfl rfl fun a h=>?_
         refine oo h rfl rfl fun a h=>oo h rfl rfl fun a h=>oo h rfl rfl fun a h=>oo h rfl rfl fun a h=>pf h rfl rfl fun a h=>mv h rfl fun a h=>oo h rfl rfl fun a h=>oo h rfl rfl fun a h=>oo h rfl rfl fun a h=>oo h rfl rfl fun a h=>oo h rfl rfl fun a h=>pf h rfl rfl fun a h=>?_
         refine mv h rfl fun a h=>oo h rfl rfl fun a h=>oo h rfl rfl fun a h=>oo h rfl rfl fun a h=>oo h rfl rfl fun a h=>oo h rfl rfl fun a h=>pf h rfl rfl fun a h=>mv h rfl fun a h=>oo h rfl rfl fun a h=>oo h rfl rfl fun a h=>oo h rfl rfl fun a h=>oo h rfl rfl fun a h=>?_
         refine oo h rfl rfl fun a h=>pf h rfl rfl fun a h=>mv h rfl fun a h=>oo h rfl rfl fun a h=>oo h rfl rfl fun a h=>oo h rfl rfl fun a h=>oo h rfl rfl fun a h=>oo h rfl rfl fun a h=>pf h rfl rfl fun a h=>mv h rfl fun a h=>oo h rfl rfl fun a h=>oo h rfl rfl fun a h=>?_
         refine oo h rfl rfl fun a h=>oo h rfl rfl fun a h=>oo h rfl rfl fun a h=>pf h rfl rfl fun a h=>mv h rfl fun a h=>oo h rfl rfl fun a h=>oo h rfl rfl fun a h=>oo h rfl rfl fun a h=>oo h rfl rfl fun a h=>oo h rfl rfl fun a h=>pf h rfl rfl fun a h=>sg h rfl fun a h=>?_
         refine wpList_nil <| x_then_n (hKJ_1 _ _ ?_)
         refine wp_ret ?_
         obtain rfl := Option.some.inj H
         exact r1 h 4 rfl rfl ⟨_, rfl, Mem.no, rfl, (hS.sel [0] (by decide))⟩
       ·refine of h rfl rfl (bf hc_7) fun a h=>of h rfl rfl (bf hc_7) fun a h=>of h rfl rfl (bf hc_7) fun a h=>of h rfl rfl (bf hc_7) fun a h=>of h rfl rfl (bf hc_7) fun a h=>pf h rfl (bf hc_7) fun a h=>mv h rfl fun a h=>oo h rfl rfl fun a h=>oo h rfl rfl fun a h=>oo h rfl rfl fun a h=>oo h rfl rfl fun a h=>oo h rfl rfl fun a h=>?_
        refine pf h rfl rfl fun a h=>mv h rfl fun a h=>oo h rfl rfl fun a h=>oo h rfl rfl fun a h=>oo h rfl rfl fun a h=>oo h rfl rfl fun a h=>oo h rfl rfl fun a h=>pf h rfl rfl fun a h=>mv h rfl fun a h=>oo h rfl rfl fun a h=>oo h rfl rfl fun a h=>oo h rfl rfl fun a h=>?_
        refine oo h rfl rfl fun a h=>oo h rfl rfl fun a h=>pf h rfl rfl fun a h=>mv h rfl fun a h=>oo h rfl rfl fun a h=>oo h rfl rfl fun a h=>oo h rfl rfl fun a h=>oo h rfl rfl fun a h=>oo h rfl rfl fun a h=>oo h rfl rfl fun a h=>oo h rfl rfl fun a h=>pf h rfl rfl fun a h=>?_
        refine mv h rfl fun a h=>oo h rfl rfl fun a h=>oo h rfl rfl fun a h=>oo h rfl rfl fun a h=>oo h rfl rfl fun a h=>oo h rfl rfl fun a h=>pf h rfl rfl fun a h=>mv h rfl fun a h=>oo h rfl rfl fun a h=>oo h rfl rfl fun a h=>oo h rfl rfl fun a h=>oo h rfl rfl fun a h=>?_
        refine oo h rfl rfl fun a h=>pf h rfl rfl fun a h=>mv h rfl fun a h=>oo h rfl rfl fun a h=>oo h rfl rfl fun a h=>oo h rfl rfl fun a h=>oo h rfl rfl fun a h=>oo h rfl rfl fun a h=>pf h rfl rfl fun a h=>mv h rfl fun a h=>oo h rfl rfl fun a h=>oo h rfl rfl fun a h=>?_
        refine oo h rfl rfl fun a h=>oo h rfl rfl fun a h=>oo h rfl rfl fun a h=>pf h rfl rfl fun a h=>mv h rfl fun a h=>oo h rfl rfl fun a h=>oo h rfl rfl fun a h=>oo h rfl rfl fun a h=>oo h rfl rfl fun a h=>oo h rfl rfl fun a h=>pf h rfl rfl fun a h=>mv h rfl fun a h=>?_
        refine oo h rfl rfl fun a h=>oo h rfl rfl fun a h=>oo h rfl rfl fun a h=>oo h rfl rfl fun a h=>oo h rfl rfl fun a h=>pf h rfl rfl fun a h=>sg h rfl fun a h=>wpList_nil <| x_then_n (hKJ_1 _ _ ?_)
        refine wp_ret ?_
        obtain rfl := Option.some.inj H
        exact r1 h 4 rfl rfl ⟨_, rfl, Mem.no, rfl, (hS.sel [0] (by decide))⟩
      ·refine of h rfl rfl (bf hc_6) fun a h=>of h rfl rfl (bf hc_6) fun a h=>of h rfl rfl (bf hc_6) fun a h=>of h rfl rfl (bf hc_6) fun a h=>of h rfl rfl (bf hc_6) fun a h=>pf h rfl (bf hc_6) fun a h=>mv h rfl fun a h=>oo h rfl rfl fun a h=>oo h rfl rfl fun a h=>oo h rfl rfl fun a h=>oo h rfl rfl fun a h=>oo h rfl rfl fun a h=>?_
       refine pf h rfl rfl fun a h=>mv h rfl fun a h=>oo h rfl rfl fun a h=>oo h rfl rfl fun a h=>oo h rfl rfl fun a h=>oo h rfl rfl fun a h=>oo h rfl rfl fun a h=>pf h rfl rfl fun a h=>mv h rfl fun a h=>oo h rfl rfl fun a h=>oo h rfl rfl fun a h=>oo h rfl rfl fun a h=>?_
       refine oo h rfl rfl fun a h=>oo h rfl rfl fun a h=>pf h rfl rfl fun a h=>mv h rfl fun a h=>oo h rfl rfl fun a h=>oo h rfl rfl fun a h=>oo h rfl rfl fun a h=>oo h rfl rfl fun a h=>oo h rfl rfl fun a h=>pf h rfl rfl fun a h=>mv h rfl fun a h=>oo h rfl rfl fun a h=>?_
       refine oo h rfl rfl fun a h=>oo h rfl rfl fun a h=>oo h rfl rfl fun a h=>oo h rfl rfl fun a h=>oo h rfl rfl fun a h=>oo h rfl rfl fun a h=>pf h rfl rfl fun a h=>mv h rfl fun a h=>oo h rfl rfl fun a h=>oo h rfl rfl fun a h=>oo h rfl rfl fun a h=>oo h rfl rfl fun a h=>?_
       refine oo h rfl rfl fun a h=>pf h rfl rfl fun a h=>mv h rfl fun a h=>oo h rfl rfl fun a h=>oo h rfl rfl fun a h=>oo h rfl rfl fun a h=>oo h rfl rfl fun a h=>oo h rfl rfl fun a h=>pf h rfl rfl fun a h=>mv h rfl fun a h=>oo h rfl rfl fun a h=>oo h rfl rfl fun a h=>?_
       refine oo h rfl rfl fun a h=>oo h rfl rfl fun a h=>oo h rfl rfl fun a h=>pf h rfl rfl fun a h=>mv h rfl fun a h=>oo h rfl rfl fun a h=>oo h rfl rfl fun a h=>oo h rfl rfl fun a h=>oo h rfl rfl fun a h=>oo h rfl rfl fun a h=>pf h rfl rfl fun a h=>mv h rfl fun a h=>?_
       refine oo h rfl rfl fun a h=>oo h rfl rfl fun a h=>oo h rfl rfl fun a h=>oo h rfl rfl fun a h=>oo h rfl rfl fun a h=>pf h rfl rfl fun a h=>mv h rfl fun a h=>oo h rfl rfl fun a h=>oo h rfl rfl fun a h=>oo h rfl rfl fun a h=>oo h rfl rfl fun a h=>oo h rfl rfl fun a h=>?_
       refine pf h rfl rfl fun a h=>sg h rfl fun a h=>wpList_nil <| x_then_n (hKJ_1 _ _ ?_)
       refine wp_ret ?_
       obtain rfl := Option.some.inj H
       exact r1 h 4 rfl rfl ⟨_, rfl, Mem.no, rfl, (hS.sel [0] (by decide))⟩
     ·refine of h rfl rfl (bf hc_5) fun a h=>of h rfl rfl (bf hc_5) fun a h=>of h rfl rfl (bf hc_5) fun a h=>of h rfl rfl (bf hc_5) fun a h=>of h rfl rfl (bf hc_5) fun a h=>pf h rfl (bf hc_5) fun a h=>mv h rfl fun a h=>oo h rfl rfl fun a h=>oo h rfl rfl fun a h=>oo h rfl rfl fun a h=>oo h rfl rfl fun a h=>oo h rfl rfl fun a h=>?_
      refine pf h rfl rfl fun a h=>mv h rfl fun a h=>oo h rfl rfl fun a h=>oo h rfl rfl fun a h=>oo h rfl rfl fun a h=>oo h rfl rfl fun a h=>oo h rfl rfl fun a h=>pf h rfl rfl fun a h=>mv h rfl fun a h=>oo h rfl rfl fun a h=>oo h rfl rfl fun a h=>oo h rfl rfl fun a h=>?_
      refine oo h rfl rfl fun a h=>oo h rfl rfl fun a h=>pf h rfl rfl fun a h=>mv h rfl fun a h=>oo h rfl rfl fun a h=>oo h rfl rfl fun a h=>oo h rfl rfl fun a h=>oo h rfl rfl fun a h=>oo h rfl rfl fun a h=>pf h rfl rfl fun a h=>mv h rfl fun a h=>oo h rfl rfl fun a h=>?_
      refine oo h rfl rfl fun a h=>oo h rfl rfl fun a h=>oo h rfl rfl fun a h=>oo h rfl rfl fun a h=>pf h rfl rfl fun a h=>mv h rfl fun a h=>oo h rfl rfl fun a h=>oo h rfl rfl fun a h=>oo h rfl rfl fun a h=>oo h rfl rfl fun a h=>oo h rfl rfl fun a h=>oo h rfl rfl fun a h=>?_
      refine oo h rfl rfl fun a h=>pf h rfl rfl fun a h=>mv h rfl fun a h=>oo h rfl rfl fun a h=>oo h rfl rfl fun a h=>oo h rfl rfl fun a h=>oo h rfl rfl fun a h=>oo h rfl rfl fun a h=>pf h rfl rfl fun a h=>mv h rfl fun a h=>oo h rfl rfl fun a h=>oo h rfl rfl fun a h=>?_
      refine oo h rfl rfl fun a h=>oo h rfl rfl fun a h=>oo h rfl rfl fun a h=>pf h rfl rfl fun a h=>mv h rfl fun a h=>oo h rfl rfl fun a h=>oo h rfl rfl fun a h=>oo h rfl rfl fun a h=>oo h rfl rfl fun a h=>oo h rfl rfl fun a h=>pf h rfl rfl fun a h=>mv h rfl fun a h=>?_
      refine oo h rfl rfl fun a h=>oo h rfl rfl fun a h=>oo h rfl rfl fun a h=>oo h rfl rfl fun a h=>oo h rfl rfl fun a h=>pf h rfl rfl fun a h=>mv h rfl fun a h=>oo h rfl rfl fun a h=>oo h rfl rfl fun a h=>oo h rfl rfl fun a h=>oo h rfl rfl fun a h=>oo h rfl rfl fun a h=>?_
      refine pf h rfl rfl fun a h=>mv h rfl fun a h=>oo h rfl rfl fun a h=>oo h rfl rfl fun a h=>oo h rfl rfl fun a h=>oo h rfl rfl fun a h=>oo h rfl rfl fun a h=>pf h rfl rfl fun a h=>sg h rfl fun a h=>wpList_nil <| x_then_n (hKJ_1 _ _ ?_)
      refine wp_ret ?_
      obtain rfl := Option.some.inj H
      exact r1 h 4 rfl rfl ⟨_, rfl, Mem.no, rfl, (hS.sel [0] (by decide))⟩
    ·refine of h rfl rfl (bf hc_4) fun a h=>of h rfl rfl (bf hc_4) fun a h=>of h rfl rfl (bf hc_4) fun a h=>of h rfl rfl (bf hc_4) fun a h=>of h rfl rfl (bf hc_4) fun a h=>pf h rfl (bf hc_4) fun a h=>mv h rfl fun a h=>oo h rfl rfl fun a h=>oo h rfl rfl fun a h=>oo h rfl rfl fun a h=>oo h rfl rfl fun a h=>oo h rfl rfl fun a h=>?_
     refine pf h rfl rfl fun a h=>mv h rfl fun a h=>oo h rfl rfl fun a h=>oo h rfl rfl fun a h=>oo h rfl rfl fun a h=>oo h rfl rfl fun a h=>oo h rfl rfl fun a h=>pf h rfl rfl fun a h=>mv h rfl fun a h=>oo h rfl rfl fun a h=>oo h rfl rfl fun a h=>oo h rfl rfl fun a h=>?_
     refine oo h rfl rfl fun a h=>oo h rfl rfl fun a h=>pf h rfl rfl fun a h=>mv h rfl fun a h=>oo h rfl rfl fun a h=>oo h rfl rfl fun a h=>oo h rfl rfl fun a h=>oo h rfl rfl fun a h=>oo h rfl rfl fun a h=>pf h rfl rfl fun a h=>mv h rfl fun a h=>oo h rfl rfl fun a h=>?_
     refine oo h rfl rfl fun a h=>oo h rfl rfl fun a h=>oo h rfl rfl fun a h=>oo h rfl rfl fun a h=>pf h rfl rfl fun a h=>mv h rfl fun a h=>oo h rfl rfl fun a h=>oo h rfl rfl fun a h=>oo h rfl rfl fun a h=>oo h rfl rfl fun a h=>oo h rfl rfl fun a h=>pf h rfl rfl fun a h=>?_
     refine mv h rfl fun a h=>oo h rfl rfl fun a h=>oo h rfl rfl fun a h=>oo h rfl rfl fun a h=>oo h rfl rfl fun a h=>oo h rfl rfl fun a h=>oo h rfl rfl fun a h=>oo h rfl rfl fun a h=>pf h rfl rfl fun a h=>mv h rfl fun a h=>oo h rfl rfl fun a h=>oo h rfl rfl fun a h=>?_
     refine oo h rfl rfl fun a h=>oo h rfl rfl fun a h=>oo h rfl rfl fun a h=>pf h rfl rfl fun a h=>mv h rfl fun a h=>oo h rfl rfl fun a h=>oo h rfl rfl fun a h=>oo h rfl rfl fun a h=>oo h rfl rfl fun a h=>oo h rfl rfl fun a h=>pf h rfl rfl fun a h=>mv h rfl fun a h=>?_
     refine oo h rfl rfl fun a h=>oo h rfl rfl fun a h=>oo h rfl rfl fun a h=>oo h rfl rfl fun a h=>oo h rfl rfl fun a h=>pf h rfl rfl fun a h=>mv h rfl fun a h=>oo h rfl rfl fun a h=>oo h rfl rfl fun a h=>oo h rfl rfl fun a h=>oo h rfl rfl fun a h=>oo h rfl rfl fun a h=>?_
     refine pf h rfl rfl fun a h=>mv h rfl fun a h=>oo h rfl rfl fun a h=>oo h rfl rfl fun a h=>oo h rfl rfl fun a h=>oo h rfl rfl fun a h=>oo h rfl rfl fun a h=>pf h rfl rfl fun a h=>mv h rfl fun a h=>oo h rfl rfl fun a h=>oo h rfl rfl fun a h=>oo h rfl rfl fun a h=>?_
     refine oo h rfl rfl fun a h=>oo h rfl rfl fun a h=>pf h rfl rfl fun a h=>sg h rfl fun a h=>wpList_nil <| x_then_n (hKJ_1 _ _ ?_)
     refine wp_ret ?_
     obtain rfl := Option.some.inj H
     exact r1 h 4 rfl rfl ⟨_, rfl, Mem.no, rfl, (hS.sel [0] (by decide))⟩
   ·refine of h rfl rfl (bf hc_3) fun a h=>of h rfl rfl (bf hc_3) fun a h=>of h rfl rfl (bf hc_3) fun a h=>of h rfl rfl (bf hc_3) fun a h=>of h rfl rfl (bf hc_3) fun a h=>pf h rfl (bf hc_3) fun a h=>mv h rfl fun a h=>oo h rfl rfl fun a h=>oo h rfl rfl fun a h=>oo h rfl rfl fun a h=>oo h rfl rfl fun a h=>oo h rfl rfl fun a h=>?_
    refine pf h rfl rfl fun a h=>mv h rfl fun a h=>oo h rfl rfl fun a h=>oo h rfl rfl fun a h=>oo h rfl rfl fun a h=>oo h rfl rfl fun a h=>oo h rfl rfl fun a h=>pf h rfl rfl fun a h=>mv h rfl fun a h=>oo h rfl rfl fun a h=>oo h rfl rfl fun a h=>oo h rfl rfl fun a h=>?_
    refine oo h rfl rfl fun a h=>oo h rfl rfl fun a h=>pf h rfl rfl fun a h=>mv h rfl fun a h=>oo h rfl rfl fun a h=>oo h rfl rfl fun a h=>oo h rfl rfl fun a h=>oo h rfl rfl fun a h=>oo h rfl rfl fun a h=>pf h rfl rfl fun a h=>mv h rfl fun a h=>oo h rfl rfl fun a h=>?_
    refine oo h rfl rfl fun a h=>oo h rfl rfl fun a h=>oo h rfl rfl fun a h=>oo h rfl rfl fun a h=>pf h rfl rfl fun a h=>mv h rfl fun a h=>oo h rfl rfl fun a h=>oo h rfl rfl fun a h=>oo h rfl rfl fun a h=>oo h rfl rfl fun a h=>oo h rfl rfl fun a h=>pf h rfl rfl fun a h=>?_
    refine mv h rfl fun a h=>oo h rfl rfl fun a h=>oo h rfl rfl fun a h=>oo h rfl rfl fun a h=>oo h rfl rfl fun a h=>oo h rfl rfl fun a h=>pf h rfl rfl fun a h=>mv h rfl fun a h=>oo h rfl rfl fun a h=>oo h rfl rfl fun a h=>oo h rfl rfl fun a h=>oo h rfl rfl fun a h=>?_
    refine oo h rfl rfl fun a h=>oo h rfl rfl fun a h=>oo h rfl rfl fun a h=>pf h rfl rfl fun a h=>mv h rfl fun a h=>oo h rfl rfl fun a h=>oo h rfl rfl fun a h=>oo h rfl rfl fun a h=>oo h rfl rfl fun a h=>oo h rfl rfl fun a h=>pf h rfl rfl fun a h=>mv h rfl fun a h=>?_
    refine oo h rfl rfl fun a h=>oo h rfl rfl fun a h=>oo h rfl rfl fun a h=>oo h rfl rfl fun a h=>oo h rfl rfl fun a h=>pf h rfl rfl fun a h=>mv h rfl fun a h=>oo h rfl rfl fun a h=>oo h rfl rfl fun a h=>oo h rfl rfl fun a h=>oo h rfl rfl fun a h=>oo h rfl rfl fun a h=>?_
    refine pf h rfl rfl fun a h=>mv h rfl fun a h=>oo h rfl rfl fun a h=>oo h rfl rfl fun a h=>oo h rfl rfl fun a h=>oo h rfl rfl fun a h=>oo h rfl rfl fun a h=>pf h rfl rfl fun a h=>mv h rfl fun a h=>oo h rfl rfl fun a h=>oo h rfl rfl fun a h=>oo h rfl rfl fun a h=>?_
    refine oo h rfl rfl fun a h=>oo h rfl rfl fun a h=>pf h rfl rfl fun a h=>mv h rfl fun a h=>oo h rfl rfl fun a h=>oo h rfl rfl fun a h=>oo h rfl rfl fun a h=>oo h rfl rfl fun a h=>oo h rfl rfl fun a h=>pf h rfl rfl fun a h=>sg h rfl fun a h=>wpList_nil <| x_then_n (hKJ_1 _ _ ?_)
    refine wp_ret ?_
    obtain rfl := Option.some.inj H
    exact r1 h 4 rfl rfl ⟨_, rfl, Mem.no, rfl, (hS.sel [0] (by decide))⟩
  ·refine of h rfl rfl (bf hc_2) fun a h=>of h rfl rfl (bf hc_2) fun a h=>of h rfl rfl (bf hc_2) fun a h=>of h rfl rfl (bf hc_2) fun a h=>of h rfl rfl (bf hc_2) fun a h=>pf h rfl (bf hc_2) fun a h=>mv h rfl fun a h=>oo h rfl rfl fun a h=>oo h rfl rfl fun a h=>oo h rfl rfl fun a h=>oo h rfl rfl fun a h=>oo h rfl rfl fun a h=>?_
   refine pf h rfl rfl fun a h=>mv h rfl fun a h=>oo h rfl rfl fun a h=>oo h rfl rfl fun a h=>oo h rfl rfl fun a h=>oo h rfl rfl fun a h=>oo h rfl rfl fun a h=>pf h rfl rfl fun a h=>mv h rfl fun a h=>oo h rfl rfl fun a h=>oo h rfl rfl fun a h=>oo h rfl rfl fun a h=>?_
   refine oo h rfl rfl fun a h=>oo h rfl rfl fun a h=>pf h rfl rfl fun a h=>mv h rfl fun a h=>oo h rfl rfl fun a h=>oo h rfl rfl fun a h=>oo h rfl rfl fun a h=>oo h rfl rfl fun a h=>oo h rfl rfl fun a h=>pf h rfl rfl fun a h=>mv h rfl fun a h=>oo h rfl rfl fun a h=>?_
   refine oo h rfl rfl fun a h=>oo h rfl rfl fun a h=>oo h rfl rfl fun a h=>oo h rfl rfl fun a h=>pf h rfl rfl fun a h=>mv h rfl fun a h=>oo h rfl rfl fun a h=>oo h rfl rfl fun a h=>oo h rfl rfl fun a h=>oo h rfl rfl fun a h=>oo h rfl rfl fun a h=>pf h rfl rfl fun a h=>?_
   refine mv h rfl fun a h=>oo h rfl rfl fun a h=>oo h rfl rfl fun a h=>oo h rfl rfl fun a h=>oo h rfl rfl fun a h=>oo h rfl rfl fun a h=>pf h rfl rfl fun a h=>mv h rfl fun a h=>oo h rfl rfl fun a h=>oo h rfl rfl fun a h=>oo h rfl rfl fun a h=>oo h rfl rfl fun a h=>?_
   refine oo h rfl rfl fun a h=>pf h rfl rfl fun a h=>mv h rfl fun a h=>oo h rfl rfl fun a h=>oo h rfl rfl fun a h=>oo h rfl rfl fun a h=>oo h rfl rfl fun a h=>oo h rfl rfl fun a h=>oo h rfl rfl fun a h=>oo h rfl rfl fun a h=>pf h rfl rfl fun a h=>mv h rfl fun a h=>?_
   refine oo h rfl rfl fun a h=>oo h rfl rfl fun a h=>oo h rfl rfl fun a h=>oo h rfl rfl fun a h=>oo h rfl rfl fun a h=>pf h rfl rfl fun a h=>mv h rfl fun a h=>oo h rfl rfl fun a h=>oo h rfl rfl fun a h=>oo h rfl rfl fun a h=>oo h rfl rfl fun a h=>oo h rfl rfl fun a h=>?_
   refine pf h rfl rfl fun a h=>mv h rfl fun a h=>oo h rfl rfl fun a h=>oo h rfl rfl fun a h=>oo h rfl rfl fun a h=>oo h rfl rfl fun a h=>oo h rfl rfl fun a h=>pf h rfl rfl fun a h=>mv h rfl fun a h=>oo h rfl rfl fun a h=>oo h rfl rfl fun a h=>oo h rfl rfl fun a h=>?_
   refine oo h rfl rfl fun a h=>oo h rfl rfl fun a h=>pf h rfl rfl fun a h=>mv h rfl fun a h=>oo h rfl rfl fun a h=>oo h rfl rfl fun a h=>oo h rfl rfl fun a h=>oo h rfl rfl fun a h=>oo h rfl rfl fun a h=>pf h rfl rfl fun a h=>mv h rfl fun a h=>oo h rfl rfl fun a h=>?_
   refine oo h rfl rfl fun a h=>oo h rfl rfl fun a h=>oo h rfl rfl fun a h=>oo h rfl rfl fun a h=>pf h rfl rfl fun a h=>sg h rfl fun a h=>wpList_nil <| x_then_n (hKJ_1 _ _ ?_)
   refine wp_ret ?_
   obtain rfl := Option.some.inj H
   exact r1 h 4 rfl rfl ⟨_, rfl, Mem.no, rfl, (hS.sel [0] (by decide))⟩
 ·refine of h rfl rfl (bf hc_1) fun a h=>of h rfl rfl (bf hc_1) fun a h=>of h rfl rfl (bf hc_1) fun a h=>of h rfl rfl (bf hc_1) fun a h=>of h rfl rfl (bf hc_1) fun a h=>pf h rfl (bf hc_1) fun a h=>mv h rfl fun a h=>oo h rfl rfl fun a h=>oo h rfl rfl fun a h=>oo h rfl rfl fun a h=>oo h rfl rfl fun a h=>oo h rfl rfl fun a h=>?_
  refine pf h rfl rfl fun a h=>mv h rfl fun a h=>oo h rfl rfl fun a h=>oo h rfl rfl fun a h=>oo h rfl rfl fun a h=>oo h rfl rfl fun a h=>oo h rfl rfl fun a h=>pf h rfl rfl fun a h=>mv h rfl fun a h=>oo h rfl rfl fun a h=>oo h rfl rfl fun a h=>oo h rfl rfl fun a h=>?_
  refine oo h rfl rfl fun a h=>oo h rfl rfl fun a h=>pf h rfl rfl fun a h=>mv h rfl fun a h=>oo h rfl rfl fun a h=>oo h rfl rfl fun a h=>oo h rfl rfl fun a h=>oo h rfl rfl fun a h=>oo h rfl rfl fun a h=>pf h rfl rfl fun a h=>mv h rfl fun a h=>oo h rfl rfl fun a h=>?_
  refine oo h rfl rfl fun a h=>oo h rfl rfl fun a h=>oo h rfl rfl fun a h=>oo h rfl rfl fun a h=>pf h rfl rfl fun a h=>mv h rfl fun a h=>oo h rfl rfl fun a h=>oo h rfl rfl fun a h=>oo h rfl rfl fun a h=>oo h rfl rfl fun a h=>oo h rfl rfl fun a h=>pf h rfl rfl fun a h=>?_
  refine mv h rfl fun a h=>oo h rfl rfl fun a h=>oo h rfl rfl fun a h=>oo h rfl rfl fun a h=>oo h rfl rfl fun a h=>oo h rfl rfl fun a h=>pf h rfl rfl fun a h=>mv h rfl fun a h=>oo h rfl rfl fun a h=>oo h rfl rfl fun a h=>oo h rfl rfl fun a h=>oo h rfl rfl fun a h=>?_
  refine oo h rfl rfl fun a h=>pf h rfl rfl fun a h=>mv h rfl fun a h=>oo h rfl rfl fun a h=>oo h rfl rfl fun a h=>oo h rfl rfl fun a h=>oo h rfl rfl fun a h=>oo h rfl rfl fun a h=>pf h rfl rfl fun a h=>mv h rfl fun a h=>oo h rfl rfl fun a h=>oo h rfl rfl fun a h=>?_
  refine oo h rfl rfl fun a h=>oo h rfl rfl fun a h=>oo h rfl rfl fun a h=>oo h rfl rfl fun a h=>oo h rfl rfl fun a h=>pf h rfl rfl fun a h=>mv h rfl fun a h=>oo h rfl rfl fun a h=>oo h rfl rfl fun a h=>oo h rfl rfl fun a h=>oo h rfl rfl fun a h=>oo h rfl rfl fun a h=>?_
  refine pf h rfl rfl fun a h=>mv h rfl fun a h=>oo h rfl rfl fun a h=>oo h rfl rfl fun a h=>oo h rfl rfl fun a h=>oo h rfl rfl fun a h=>oo h rfl rfl fun a h=>pf h rfl rfl fun a h=>mv h rfl fun a h=>oo h rfl rfl fun a h=>oo h rfl rfl fun a h=>oo h rfl rfl fun a h=>?_
  refine oo h rfl rfl fun a h=>oo h rfl rfl fun a h=>pf h rfl rfl fun a h=>mv h rfl fun a h=>oo h rfl rfl fun a h=>oo h rfl rfl fun a h=>oo h rfl rfl fun a h=>oo h rfl rfl fun a h=>oo h rfl rfl fun a h=>pf h rfl rfl fun a h=>mv h rfl fun a h=>oo h rfl rfl fun a h=>?_
  refine oo h rfl rfl fun a h=>oo h rfl rfl fun a h=>oo h rfl rfl fun a h=>oo h rfl rfl fun a h=>pf h rfl rfl fun a h=>mv h rfl fun a h=>oo h rfl rfl fun a h=>oo h rfl rfl fun a h=>oo h rfl rfl fun a h=>oo h rfl rfl fun a h=>oo h rfl rfl fun a h=>pf h rfl rfl fun a h=>?_
  refine sg h rfl fun a h=>wpList_nil <| x_then_n (hKJ_1 _ _ ?_)
  refine wp_ret ?_
  obtain rfl := Option.some.inj H
  exact r1 h 4 rfl rfl ⟨_, rfl, Mem.no, rfl, (hS.sel [0] (by decide))⟩

set_option maxHeartbeats 4000000 in
set_option maxRecDepth 20000 in
theorem mesg_write_1.calls (K : Nat) (x0 : List Int) (p0_0 : Value) (g1 : Nat) (x1_ : List UInt8) (p1_1 : Value) (M1_1 : Mem) (r : (List UInt8)) (w0 w : World) (Z A : Mem) (hA : A.le Z) (hS : Sep w0 w [bx g1 22 [p1_1], M1_1] Z) (hp0_0 : Rd (Kd.int .i64) A p0_0 x0) (hp1_1 : Own Kd.u8 5 M1_1 Mem.no p1_1 x1_)
    (H : mesg_write_1.f K x0 x1_ = some r) :
    Calls Try.prog 86 [p0_0, .pointer (some ⟨g1, 0, none⟩)].toArray w (Ret fun v w' => ∃ (u0 : Value) (N : Mem) (M100 : Mem), v = .tuple [].toArray ∧ Sep w0 w' [N, bx g1 22 [u0], M100] Z ∧ Own Kd.u8 5 M100 Mem.no u0 r) := by
 unfold mesg_write_1.f at H
 refine f_enter _ Try.func86 rfl Try.ntmps86 rfl fun a h=>?_
 replace h : Fr 15 a [(0, p0_0), (1, .pointer (some ⟨g1, 0, none⟩))] := h
 replace hS := hS.start
 refine qr <| mv h rfl fun a h=>s_len h rfl U29 rfl hp0_0 fun a h=>mv h rfl fun a h=>nx <| c_last fun KJ_1 hKJ_1 => ?_
 have hJ_j_1 : ∀ (x_1 : List UInt8), mesg_write_1.J1 K x_1 = some r → ∀ (a : Act) (w_1 : World), (∃ (v_1 : Value) (N_1 : Mem) (M_1 : Mem), Fr 15 a [] ∧ Sep w0 w_1 [N_1, bx g1 22 [v_1], Mem.no, M_1] Z ∧ Mem.no.le N_1 ∧ Own Kd.u8 5 M_1 Mem.no v_1 x_1) → KJ_1 a w_1 := by
  clear H h hS a
  rintro x_1 H a w_1 ⟨v_1, N_1, M_1, h, hS, le_1, ho_1⟩
  unfold mesg_write_1.J1 at H
  refine hKJ_1 _ _ <| f_end ?_
  obtain rfl := Option.some.inj H
  exact f_ret h (rs := []) rfl .nil ⟨_, rfl, v_1, N_1, M_1, rfl, (hS.sel [0, 1, 3] (by decide)), ho_1⟩
 clear hKJ_1
 refine c_block <| c_loop (fun k_1 a w_2 => ∃ (x_2 : Int) (x_3 : List UInt8) (v_2 : Value) (N_2 : Mem) (M_2 : Mem), mesg_write_1.L1 K x0 (fun v => mesg_write_1.J1 K v) k_1 (x_2, x_3) = some r ∧ Fr 15 a [(1, .pointer (some ⟨g1, 0, none⟩)), (5, p0_0), (6, iV (x0.length : Int)), (7, iV x_2)] ∧ Sep w0 w_2 [N_2, bx g1 22 [v_2], Mem.no, M_2] Z ∧ Mem.no.le N_2 ∧ Own Kd.u8 5 M_2 Mem.no v_2 x_3) K ⟨0, x1_, p1_1, Mem.no, M1_1, H, (h.to rfl), (hS.sel [0, 1, 1001, 2] (by decide)), mr, hp1_1⟩ (fun a w h => by obtain ⟨_, _, _, _, _, H, _⟩ := h; cases (show (none : Option ((List UInt8))) = some r from H)) ?_
 clear h hS a H
 rintro k_1 a w_2 KL_1 hKL_1 ⟨x_2, x_3, v_2, N_2, M_2, H, h, hS, le_2, ho_2⟩
 replace H : mesg_write_1.B1 K x0 (fun v => mesg_write_1.J1 K v) (mesg_write_1.L1 K x0 (fun v => mesg_write_1.J1 K v) k_1) x_2 x_3 = some r := H
 unfold mesg_write_1.B1 at H
 refine qr <| s_cmp (b := decide (x_2 < (x0.length : Int))) h rfl rfl rfl (.inr (.inr (.inl ⟨rfl, rfl⟩))) fun a h=>nx <| c_seq fun KJ_2 hKJ_2 => ?_
 obtain ⟨hc_1, H⟩ | ⟨hc_1, H⟩ := ii H
 ·refine c_cond_t h rfl (dt hc_1) <| wp_skip <| x_then_n (hKJ_2 _ _ ?_)
  refine wp_seq <| c_block <| wp_seq <| wp_region_lit ?_
  obtain ⟨t_1, et_1, H⟩ := bs H
  refine v_index h rfl U29 ti3 rfl rfl rfl hp0_0 (hA.trans hS.old) et_1 fun ad_1 cs_1 hk_1 hc_2 => ?_
  obtain rfl := (show cs_1 = [iV t_1] from hk_1)
  intro a h
  refine s_load h rfl rfl (el_one (o := 0) hc_2 U3 rfl rfl) fun a h=>sg h rfl fun a h=>nx <| wp_region_lit <| s_load h rfl rfl (hS.load_one (p := 1) rfl U22 rfl rfl) fun a h=>mv h rfl fun a h=>?_
  obtain ⟨t_2, et_2, H⟩ := bs H
  refine s_call h rfl Try.call22 rfl (pack_Num.calls K x_3 _ t_1 t_2 w0 _ _ _ mr (hS.enter [] (by decide)) (ho_2.rd (hS.own_zed [] 2 (by decide)) (Mem.no_le _)) et_2) ?_
  rintro v_3 w_3 ⟨_, N_3, M_3, rfl, hS', hr_1⟩
  intro a h
  obtain ⟨N_4, hS'', le_3, ln_1⟩ := hS.call [] (by decide) rfl (l' := []) (ow := [_]) rfl hS'
  replace hS : Sep w0 w_3 [N_4, _, _, _, _] Z := hS''
  refine sto 1 h rfl rfl hS rfl ti22 hr_1.cellsA rfl rfl (oc hr_1.one on0) fun w_4 hS' => ?_
  replace hS : Sep w0 w_4 [_, bx g1 22 [v_3], _, _, _] Z := hS'
  refine wpList_nil ?_
  replace h : Fr 15 a [(1, _), (5, _), (6, _), (7, _)] := h.keep [1, 5, 6, 7]
  refine x_block_n <| x_then_n <| wp_region_lit <| s_arith (r := w64 (x_2 + 1)) h rfl rfl rfl (.inl ⟨rfl, rfl⟩) fun a h=>mv h rfl fun a h=>wpList_nil <| x_then_n (hKL_1 _ _ ?_)
  exact ⟨w64 (x_2 + 1), t_2, v_3, N_4, M_3, H, (h.to rfl), (hS.sel [0, 1, 1001, 4] (by decide)), (le_2.trans le_3), hr_1⟩
 ·refine c_cond_f h rfl (df hc_1) <| wp_exit (x_then_x (x_then_x (x_block_t ?_)))
  exact x_then_n (hJ_j_1 x_3 H _ _ ⟨v_2, N_2, M_2, (h.to rfl), (hS.sel [0, 1, 1001, 3] (by decide)), le_2, ho_2⟩)

set_option maxHeartbeats 4000000 in
set_option maxRecDepth 20000 in
theorem mach_right_2.calls (x0 : api_Last) (p0_0 : Value) (x1 : api_Last) (p1_1 : Value) (r : Bool) (w0 w : World) (Z A : Mem) (hA : A.le Z) (hS : Sep w0 w [] Z) (hp0_0 : Rd Kd.u8 A p0_0 x0.Result.Val) (hp1_1 : Rd Kd.u8 A p1_1 x1.Result.Val)
    (H : mach_right_2.f x0 x1 = some r) :
    Calls Try.prog 97 [.agg (E93 x0 p0_0).toArray, .agg (E93 x1 p1_1).toArray].toArray w (Ret fun v w' => ∃ (N : Mem), v = .bool r ∧ Sep w0 w' [N] Z) := by
 unfold mach_right_2.f at H
 refine f_enter _ Try.func97 rfl Try.ntmps97 rfl fun a h=>?_
 replace h : Fr 10 a [(0, .agg (E93 x0 p0_0).toArray), (1, .agg (E93 x1 p1_1).toArray)] := h
 replace hS := hS.start
 refine qr <| v_box (vs := (E93 x0 p0_0)) h rfl rfl rfl hS fun w_1 g_1 hS' a h => ?_
 replace hS : Sep w0 w_1 [_, bx g_1 93 (E93 x0 p0_0)] Z := hS'
 refine v_box (vs := (E93 x1 p1_1)) h rfl rfl rfl hS fun w_2 g_2 hS' a h => ?_
 replace hS : Sep w0 w_2 [_, _, bx g_2 93 (E93 x1 p1_1)] Z := hS'
 refine sg h rfl fun a h=>nx <| qr <| s_fieldAddr h rfl U93 rfl ti3 rfl rfl fun a h=>s_load h rfl rfl (hS.load_one (p := 1) rfl U3 rfl rfl) fun a h=>s_fieldAddr h rfl U93 rfl ti3 rfl rfl fun a h=>s_load h rfl rfl (hS.load_one (p := 2) rfl U3 rfl rfl) fun a h=>s_cmp (b := decide (x0.Sess > x1.Sess)) h rfl rfl rfl (.inr (.inr (.inr (.inr (.inl ⟨rfl, rfl⟩))))) fun a h=>sg h rfl fun a h=>wpList_nil <| x_then_n ?_
 refine wp_ret ?_
 obtain rfl := Option.some.inj H
 exact r1 h 4 rfl rfl ⟨_, rfl, Mem.no, rfl, (hS.sel [0] (by decide))⟩

set_option maxHeartbeats 4000000 in
set_option maxRecDepth 20000 in
theorem bytes_Compare.calls (x0 : List UInt8) (p0_0 : Value) (x1 : List UInt8) (p1_1 : Value) (r : Int) (w0 w : World) (Z A : Mem) (hA : A.le Z) (hS : Sep w0 w [] Z) (hp0_0 : Rd Kd.u8 A p0_0 x0) (hp1_1 : Rd Kd.u8 A p1_1 x1)
    (H : bytes_Compare.f x0 x1 = some r) :
    Calls Try.prog 95 [p0_0, p1_1].toArray w (Ret fun v w' => ∃ (N : Mem), v = iV r ∧ Sep w0 w' [N] Z) := by
 unfold bytes_Compare.f at H
 refine f_enter _ Try.func95 rfl Try.ntmps95 rfl fun a h=>?_
 replace h : Fr 8 a [(0, p0_0), (1, p1_1)] := h
 replace hS := hS.start
 refine qr <| sg h rfl fun a h=>nx <| qr <| mv h rfl fun a h=>mv h rfl fun a h=>s_bcmp h rfl Try.func120 (by kernel_rfl) (by kernel_rfl) (by kernel_rfl) (by kernel_rfl) rfl rfl hp0_0 (hA.trans hS.old) hp1_1 (hA.trans hS.old) fun a h=>sg h rfl fun a h=>wpList_nil <| x_then_n ?_
 refine wp_ret ?_
 obtain rfl := Option.some.inj H
 exact r1 h 4 rfl rfl ⟨_, rfl, Mem.no, rfl, (hS.sel [0] (by decide))⟩

set_option maxHeartbeats 4000000 in
set_option maxRecDepth 20000 in
theorem mesg_write.calls (K : Nat) (x0 : api_Msg) (p0_0 : Value) (p0_1 : Value) (p0_2 : Value) (p0_3 : Value) (p0_4 : Value) (p0_5 : Value) (r : (List UInt8)) (w0 w : World) (Z A : Mem) (hA : A.le Z) (hS : Sep w0 w [] Z) (hp0_0 : Rd Kd.u8 A p0_0 x0.Data) (hp0_1 : Rd (Kd.int .i64) A p0_1 x0.Have) (hp0_2 : Rd (Kd.int .i64) A p0_2 x0.Need) (hp0_3 : Rd Kd.u8 A p0_3 x0.Entry.Cmd.Key) (hp0_4 : Rd Kd.u8 A p0_4 x0.Entry.Cmd.Val) (hp0_5 : Rd Kd.u8 A p0_5 x0.Entry.Cmd.Old)
    (H : mesg_write.f K x0 = some r) :
    Calls Try.prog 71 [.agg (E56 x0 p0_0 p0_1 p0_2 p0_3 p0_4 p0_5).toArray].toArray w (Ret fun v w' => ∃ (u0 : Value) (N : Mem) (M0 : Mem), v = u0 ∧ Sep w0 w' [N, M0] Z ∧ Own Kd.u8 5 M0 Mem.no u0 r) := by
 unfold mesg_write.f at H
 refine f_enter _ Try.func71 rfl Try.ntmps71 rfl fun a h=>?_
 replace h : Fr 90 a [(0, .agg (E56 x0 p0_0 p0_1 p0_2 p0_3 p0_4 p0_5).toArray)] := h
 replace hS := hS.start
 refine qr <| v_box (vs := (E56 x0 p0_0 p0_1 p0_2 p0_3 p0_4 p0_5)) h rfl rfl rfl hS fun w_1 g_1 hS' a h => ?_
 replace hS : Sep w0 w_1 [_, bx g_1 56 (E56 x0 p0_0 p0_1 p0_2 p0_3 p0_4 p0_5)] Z := hS'
 refine sg h rfl fun a h=>nx <| qr <| v_alloc h rfl ti22 hS fun w_2 g_2 hS' a h => ?_
 replace hS : Sep w0 w_2 [_, _, bx g_2 22 [nS]] Z := hS'
 refine nx <| qr <| s_func h rfl rfl fun a h=>sg h rfl fun a h=>nx <| qr <| mv h rfl fun a h=>s_fieldAddr h rfl U56 rfl ti3 rfl rfl fun a h=>?_
 refine s_load h rfl rfl (hS.load_one (p := 1) rfl U3 rfl rfl) fun a h=>s_fieldAddr h rfl U56 rfl ti3 rfl rfl fun a h=>s_load h rfl rfl (hS.load_one (p := 1) rfl U3 rfl rfl) fun a h=>s_fieldAddr h rfl U56 rfl ti3 rfl rfl fun a h=>s_load h rfl rfl (hS.load_one (p := 1) rfl U3 rfl rfl) fun a h=>s_fieldAddr h rfl U56 rfl ti3 rfl rfl fun a h=>s_load h rfl rfl (hS.load_one (p := 1) rfl U3 rfl rfl) fun a h=>?_
 have hq_1 : Reps (Kd.int .i64) Mem.no ([x0.Kind, x0.From, x0.To, x0.View] : List Int) _ := ((Reps.one (d := (Kd.int .i64)) (x := x0.Kind) (show (Kd.int .i64).K _ _ [iV x0.Kind] from rfl)).append ((Reps.one (d := (Kd.int .i64)) (x := x0.From) (show (Kd.int .i64).K _ _ [iV x0.From] from rfl)).append ((Reps.one (d := (Kd.int .i64)) (x := x0.To) (show (Kd.int .i64).K _ _ [iV x0.To] from rfl)).append ((Reps.one (d := (Kd.int .i64)) (x := x0.View) (show (Kd.int .i64).K _ _ [iV x0.View] from rfl)).append (Reps.nil (Kd.int .i64) _)))))
 refine s_buildSlice h rfl U29 ti3 rfl rfl rfl (.cons rfl (.cons rfl (.cons rfl (.cons rfl .nil)))) rfl rfl rfl hS hq_1 rfl fun w_3 v_1 M_1 hS' ho_1 a h => ?_
 replace hS : Sep w0 w_3 [_, _, _, M_1] Z := hS'
 have hS' := hS.room
 replace hS : Sep w0 w_3 [_, _, _, _, Mem.no] Z := hS'
 obtain ⟨t_1, et_1, H⟩ := bs H
 refine s_callv h rfl rfl Try.call86 rfl (mesg_write_1.calls K ([x0.Kind, x0.From, x0.To, x0.View] : List Int) _ _ ([] : List UInt8) _ _ t_1 w0 _ _ _ mr (hS.enter [1, 3] (by decide)) (ho_1.rd (hS.own_zed [1, 3] 2 (by decide)) (Mem.no_le _)) (Own.nil Kd.u8 5 Mem.no) et_1) ?_
 rintro _ w_4 ⟨v_2, N_1, M_2, rfl, hS', hr_1⟩
 intro a h
 obtain ⟨N_2, hS'', le_1, ln_1⟩ := hS.call [1, 3] (by decide) rfl (l' := [_, _]) (ow := []) rfl hS'
 replace hS : Sep w0 w_4 [N_2, _, _, _, _] Z := hS''
 refine wpList_nil ?_
 replace h : Fr 90 a [(1, .pointer (some ⟨g_1, 0, none⟩)), (2, nS), (3, .pointer (some ⟨g_2, 0, none⟩)), (4, .func (.func 86) #[] [.pointer (some ⟨g_2, 0, none⟩)].toArray)] := h.keep [1, 2, 3, 4]
 refine x_then_n <| c_seq fun KJ_1 hKJ_1 => qr <| s_fieldAddr h rfl U56 rfl ti3 rfl rfl fun a h=>s_load h rfl rfl (hS.load_one (p := 1) rfl U3 rfl rfl) fun a h=>nx <| c_block <| qr <| s_cmp (b := (x0.Kind == 2)) h rfl rfl rfl (.inl ⟨rfl, rfl⟩) fun a h=>?_
 refine sg h rfl fun a h=>wpList_nil <| x_then_n ?_
 obtain ⟨hc_1, H⟩ | ⟨hc_1, H⟩ := ii H
 ·refine c_cond_t h rfl (bt hc_1) <| h_begin (S := fun w => Sep w0 w [N_2, bx g_1 56 (E56 x0 p0_0 p0_1 p0_2 p0_3 p0_4 p0_5), Mem.no, M_1, Mem.no] Z) 10 (by kernel_rfl) rfl (bA 10 0) (by kernel_rfl) hS fun w_5 hS => ?_
  refine t_take 0 (bA 10 1) rfl rfl rfl rfl h (hS.sub (.cons mr (.rr (.zz (.rr (.zz .ii)))))) (v := .func (.func 86) #[] [.pointer (some ⟨g_2, 0, none⟩)].toArray) (fun w hS => r_move h rfl) fun a h=>t_take 1 (bA 10 3) rfl rfl rfl rfl h (hS.sub (.cons mr (.rr (.zz (.rr (.zz .ii)))))) (v := .pointer (some ⟨g_1, 4, none⟩)) (fun w hS => r_fieldAddr h U56 rfl ti3 rfl rfl rfl) fun a h=>t_take 2 (bA 10 7) rfl rfl rfl rfl h (hS.sub (.cons mr (.rr (.zz (.rr (.zz .ii)))))) (v := iV x0.Inst) (fun w hS => r_load h rfl (hS.load_one (p := 1) rfl U3 rfl rfl)) fun a h=>t_take 3 (bA 10 15) rfl rfl rfl rfl h (hS.sub (.cons mr (.rr (.zz (.rr (.zz .ii)))))) (v := .pointer (some ⟨g_1, 5, none⟩)) (fun w hS => r_fieldAddr h U56 rfl ti3 rfl rfl rfl) fun a h=>t_take 4 (bA 10 31) rfl rfl rfl rfl h (hS.sub (.cons mr (.rr (.zz (.rr (.zz .ii)))))) (v := iV x0.Len) (fun w hS => r_load h rfl (hS.load_one (p := 1) rfl U3 rfl rfl)) fun a h=>t_take 5 (bA 10 63) rfl rfl rfl rfl h (hS.sub (.cons mr (.rr (.zz (.rr (.zz .ii)))))) (v := .pointer (some ⟨g_1, 6, none⟩)) (fun w hS => r_fieldAddr h U56 rfl ti4 rfl rfl rfl) fun a h=>?_
  refine t_take 6 (bA 10 127) rfl rfl rfl rfl h (hS.sub (.cons mr (.rr (.zz (.rr (.zz .ii)))))) (v := .bool x0.Has) (fun w hS => r_load h rfl (hS.load_one (p := 1) rfl U4 rfl rfl)) fun a h=>h_event 7 (bA 10 255) rfl (by kernel_rfl) (by kernel_rfl) ?_
  obtain ⟨t_2, et_2, H⟩ := bs H
  refine s_call h rfl Try.call87 rfl (mesg_flag.calls x0.Has t_2 w0 _ _ _ mr (hS.enter [] (by decide))  et_2) ?_
  rintro _ w_6 ⟨N_3, rfl, hS'⟩
  intro a h
  obtain ⟨N_4, hS'', le_2, ln_2⟩ := hS.call [] (by decide) rfl (l' := []) (ow := []) rfl hS'
  replace hS : Sep w0 w_6 [N_4, _, _, _, _] Z := hS''
  refine ne (hS.sub (.cons le_2 (.rr (.zz (.rr (.zz .ii)))))) fun hs => ?_
  refine h_event 8 (bA 10 511) rfl (by kernel_rfl) (by kernel_rfl) ?_
  have hq_2 : Reps (Kd.int .i64) Mem.no ([x0.Inst, x0.Len, t_2] : List Int) _ := ((Reps.one (d := (Kd.int .i64)) (x := x0.Inst) (show (Kd.int .i64).K _ _ [iV x0.Inst] from rfl)).append ((Reps.one (d := (Kd.int .i64)) (x := x0.Len) (show (Kd.int .i64).K _ _ [iV x0.Len] from rfl)).append ((Reps.one (d := (Kd.int .i64)) (x := t_2) (show (Kd.int .i64).K _ _ [iV t_2] from rfl)).append (Reps.nil (Kd.int .i64) _))))
  refine s_buildSlice h rfl U29 ti3 rfl rfl rfl (.cons rfl (.cons rfl (.cons rfl .nil))) rfl rfl rfl hS hq_2 rfl fun w_7 v_3 M_3 hS' ho_2 a h => ?_
  replace hS : Sep w0 w_7 [_, _, _, _, _, M_3] Z := hS'
  refine ne (hS.sub (.cons le_2 (.rr (.zz (.rr (.zz .nn)))))) fun hs => ?_
  refine h_event 9 (bA 10 1023) rfl (by kernel_rfl) (by kernel_rfl) ?_
  obtain ⟨t_3, et_3, H⟩ := bs H
  refine s_callv h rfl rfl Try.call86 rfl (mesg_write_1.calls K ([x0.Inst, x0.Len, t_2] : List Int) _ _ t_1 _ _ t_3 w0 _ _ _ mr (hS.enter [1, 3] (by decide)) (ho_2.rd (hS.own_zed [1, 3] 4 (by decide)) (Mem.no_le _)) hr_1 et_3) ?_
  rintro _ w_8 ⟨v_4, N_5, M_4, rfl, hS', hr_2⟩
  intro a h
  obtain ⟨N_6, hS'', le_3, ln_3⟩ := hS.call [1, 3] (by decide) rfl (l' := [_, _]) (ow := []) rfl hS'
  replace hS : Sep w0 w_8 [N_6, _, _, _, _, _] Z := hS''
  refine ne (hS.sub (.cons (le_2.trans le_3) (.rr (.zz (.rr (.zz .nn)))))) fun hs => ?_
  refine h_done (by kernel_rfl) <| x_block_n <| x_then_n (hKJ_1 _ _ ?_)
  refine qr <| s_load h rfl rfl (hS.load_one (p := 2) rfl U22 rfl rfl) fun a h=>sg h rfl fun a h=>wpList_nil ?_
  replace h : Fr 90 a [(2, v_4)] := h.keep [2]
  refine x_then_n <| wp_ret ?_
  obtain rfl := Option.some.inj H
  exact r1 h 2 rfl rfl ⟨_, rfl, v_4, N_6, M_4, rfl, (hS.sel [0, 4] (by decide)), hr_2⟩
 ·refine c_cond_f h rfl (bf hc_1) <| qr <| s_cmp (b := (x0.Kind == 3)) h rfl rfl rfl (.inl ⟨rfl, rfl⟩) fun a h=>sg h rfl fun a h=>wpList_nil <| x_then_n ?_
  obtain ⟨hc_2, H⟩ | ⟨hc_2, H⟩ := ii H
  ·refine c_cond_t h rfl (bt hc_2) <| wp_region_lit <| mv h rfl fun a h=>s_fieldAddr h rfl U56 rfl ti3 rfl rfl fun a h=>s_load h rfl rfl (hS.load_one (p := 1) rfl U3 rfl rfl) fun a h=>s_fieldAddr h rfl U56 rfl ti3 rfl rfl fun a h=>s_load h rfl rfl (hS.load_one (p := 1) rfl U3 rfl rfl) fun a h=>s_fieldAddr h rfl U56 rfl ti3 rfl rfl fun a h=>s_load h rfl rfl (hS.load_one (p := 1) rfl U3 rfl rfl) fun a h=>?_
   have hq_3 : Reps (Kd.int .i64) Mem.no ([x0.Members, x0.Source, x0.Len] : List Int) _ := ((Reps.one (d := (Kd.int .i64)) (x := x0.Members) (show (Kd.int .i64).K _ _ [iV x0.Members] from rfl)).append ((Reps.one (d := (Kd.int .i64)) (x := x0.Source) (show (Kd.int .i64).K _ _ [iV x0.Source] from rfl)).append ((Reps.one (d := (Kd.int .i64)) (x := x0.Len) (show (Kd.int .i64).K _ _ [iV x0.Len] from rfl)).append (Reps.nil (Kd.int .i64) _))))
   refine s_buildSlice h rfl U29 ti3 rfl rfl rfl (.cons rfl (.cons rfl (.cons rfl .nil))) rfl rfl rfl hS hq_3 rfl fun w_9 v_5 M_5 hS' ho_3 a h => ?_
   replace hS : Sep w0 w_9 [_, _, _, _, _, M_5] Z := hS'
   obtain ⟨t_4, et_4, H⟩ := bs H
   refine s_callv h rfl rfl Try.call86 rfl (mesg_write_1.calls K ([x0.Members, x0.Source, x0.Len] : List Int) _ _ t_1 _ _ t_4 w0 _ _ _ mr (hS.enter [1, 3] (by decide)) (ho_3.rd (hS.own_zed [1, 3] 4 (by decide)) (Mem.no_le _)) hr_1 et_4) ?_
   rintro _ w_10 ⟨v_6, N_7, M_6, rfl, hS', hr_3⟩
   intro a h
   obtain ⟨N_8, hS'', le_4, ln_4⟩ := hS.call [1, 3] (by decide) rfl (l' := [_, _]) (ow := []) rfl hS'
   replace hS : Sep w0 w_10 [N_8, _, _, _, _, _] Z := hS''
   refine wpList_nil ?_
   replace h : Fr 90 a [(2, _), (3, _)] := h.keep [2, 3]
   refine x_block_n <| x_then_n (hKJ_1 _ _ ?_)
   refine qr <| s_load h rfl rfl (hS.load_one (p := 2) rfl U22 rfl rfl) fun a h=>sg h rfl fun a h=>nx <| wp_ret ?_
   obtain rfl := Option.some.inj H
   exact r1 h 2 rfl rfl ⟨_, rfl, v_6, N_8, M_6, rfl, (hS.sel [0, 4] (by decide)), hr_3⟩
  ·refine c_cond_f h rfl (bf hc_2) <| qr <| s_cmp (b := (x0.Kind == 4)) h rfl rfl rfl (.inl ⟨rfl, rfl⟩) fun a h=>sg h rfl fun a h=>wpList_nil ?_
   replace h : Fr 90 a [(1, _), (2, _), (3, _), (4, _), (18, iV x0.Kind), (42, .bool (x0.Kind == 4))] := h.keep [1, 2, 3, 4, 18, 42]
   refine x_then_n ?_
   obtain ⟨hc_3, H⟩ | ⟨hc_3, H⟩ := ii H
   ·refine c_cond_t h rfl (bt hc_3) <| wp_region_lit <| mv h rfl fun a h=>s_fieldAddr h rfl U56 rfl ti3 rfl rfl fun a h=>s_load h rfl rfl (hS.load_one (p := 1) rfl U3 rfl rfl) fun a h=>?_
    have hq_4 : Reps (Kd.int .i64) Mem.no ([x0.At] : List Int) _ := ((Reps.one (d := (Kd.int .i64)) (x := x0.At) (show (Kd.int .i64).K _ _ [iV x0.At] from rfl)).append (Reps.nil (Kd.int .i64) _))
    refine s_buildSlice h rfl U29 ti3 rfl rfl rfl (.cons rfl .nil) rfl rfl rfl hS hq_4 rfl fun w_11 v_7 M_7 hS' ho_4 a h => ?_
    replace hS : Sep w0 w_11 [_, _, _, _, _, M_7] Z := hS'
    obtain ⟨t_5, et_5, H⟩ := bs H
    refine s_callv h rfl rfl Try.call86 rfl (mesg_write_1.calls K ([x0.At] : List Int) _ _ t_1 _ _ t_5 w0 _ _ _ mr (hS.enter [1, 3] (by decide)) (ho_4.rd (hS.own_zed [1, 3] 4 (by decide)) (Mem.no_le _)) hr_1 et_5) ?_
    rintro _ w_12 ⟨v_8, N_9, M_8, rfl, hS', hr_4⟩
    intro a h
    obtain ⟨N_10, hS'', le_5, ln_5⟩ := hS.call [1, 3] (by decide) rfl (l' := [_, _]) (ow := []) rfl hS'
    replace hS : Sep w0 w_12 [N_10, _, _, _, _, _] Z := hS''
    refine wpList_nil <| x_block_n <| x_then_n (hKJ_1 _ _ ?_)
    refine qr <| s_load h rfl rfl (hS.load_one (p := 2) rfl U22 rfl rfl) fun a h=>sg h rfl fun a h=>nx <| wp_ret ?_
    obtain rfl := Option.some.inj H
    exact r1 h 2 rfl rfl ⟨_, rfl, v_8, N_10, M_8, rfl, (hS.sel [0, 4] (by decide)), hr_4⟩
   ·refine c_cond_f h rfl (bf hc_3) <| qr <| s_cmp (b := (x0.Kind == 5)) h rfl rfl rfl (.inl ⟨rfl, rfl⟩) fun a h=>sg h rfl fun a h=>wpList_nil <| x_then_n ?_
    obtain ⟨hc_4, H⟩ | ⟨hc_4, H⟩ := ii H
    ·refine c_cond_t h rfl (bt hc_4) <| qr <| mv h rfl fun a h=>s_fieldAddr h rfl U56 rfl ti3 rfl rfl fun a h=>s_load h rfl rfl (hS.load_one (p := 1) rfl U3 rfl rfl) fun a h=>s_fieldAddr h rfl U56 rfl ti3 rfl rfl fun a h=>s_load h rfl rfl (hS.load_one (p := 1) rfl U3 rfl rfl) fun a h=>?_
     have hq_5 : Reps (Kd.int .i64) Mem.no ([x0.At, x0.Total] : List Int) _ := ((Reps.one (d := (Kd.int .i64)) (x := x0.At) (show (Kd.int .i64).K _ _ [iV x0.At] from rfl)).append ((Reps.one (d := (Kd.int .i64)) (x := x0.Total) (show (Kd.int .i64).K _ _ [iV x0.Total] from rfl)).append (Reps.nil (Kd.int .i64) _)))
     refine s_buildSlice h rfl U29 ti3 rfl rfl rfl (.cons rfl (.cons rfl .nil)) rfl rfl rfl hS hq_5 rfl fun w_13 v_9 M_9 hS' ho_5 a h => ?_
     replace hS : Sep w0 w_13 [_, _, _, _, _, M_9] Z := hS'
     obtain ⟨t_6, et_6, H⟩ := bs H
     refine s_callv h rfl rfl Try.call86 rfl (mesg_write_1.calls K ([x0.At, x0.Total] : List Int) _ _ t_1 _ _ t_6 w0 _ _ _ mr (hS.enter [1, 3] (by decide)) (ho_5.rd (hS.own_zed [1, 3] 4 (by decide)) (Mem.no_le _)) hr_1 et_6) ?_
     rintro _ w_14 ⟨v_10, N_11, M_10, rfl, hS', hr_5⟩
     intro a h
     obtain ⟨N_12, hS'', le_6, ln_6⟩ := hS.call [1, 3] (by decide) rfl (l' := [_, _]) (ow := []) rfl hS'
     replace hS : Sep w0 w_14 [N_12, _, _, _, _, _] Z := hS''
     refine nx <| wp_region_lit <| s_load h rfl rfl (hS.load_one (p := 2) rfl U22 rfl rfl) fun a h=>s_fieldAddr h rfl U56 rfl ti22 rfl rfl fun a h=>s_load h rfl rfl (hS.load_one (p := 1) rfl U22 rfl rfl) fun a h=>?_
     obtain ⟨t_7, et_7, H⟩ := bs H
     refine s_call h rfl Try.call21 rfl (pack_Bytes.calls K t_6 _ x0.Data _ t_7 w0 _ _ _ mr (hS.enter [] (by decide)) (hr_5.rd (hS.own_zed [] 3 (by decide)) (Mem.no_le _)) (hp0_0.mono (hA.trans (hS.le_zed []))) et_7) ?_
     rintro v_11 w_15 ⟨_, N_13, M_11, rfl, hS', hr_6⟩
     intro a h
     obtain ⟨N_14, hS'', le_7, ln_7⟩ := hS.call [] (by decide) rfl (l' := []) (ow := [_]) rfl hS'
     replace hS : Sep w0 w_15 [N_14, _, _, _, _, _, _] Z := hS''
     refine sto 2 h rfl rfl hS rfl ti22 hr_6.cellsA rfl rfl (oc hr_6.one on0) fun w_16 hS' => ?_
     replace hS : Sep w0 w_16 [_, _, bx g_2 22 [v_11], _, _, _, _] Z := hS'
     refine wpList_nil <| x_block_n <| x_then_n (hKJ_1 _ _ ?_)
     refine qr <| s_load h rfl rfl (hS.load_one (p := 2) rfl U22 rfl rfl) fun a h=>sg h rfl fun a h=>wpList_nil ?_
     replace h : Fr 90 a [(2, v_11)] := h.keep [2]
     refine x_then_n <| wp_ret ?_
     obtain rfl := Option.some.inj H
     exact r1 h 2 rfl rfl ⟨_, rfl, v_11, N_14, M_11, rfl, (hS.sel [0, 6] (by decide)), hr_6⟩
    ·refine c_cond_f h rfl (bf hc_4) <| qr <| s_cmp (b := (x0.Kind == 7)) h rfl rfl rfl (.inl ⟨rfl, rfl⟩) fun a h=>sg h rfl fun a h=>wpList_nil <| x_then_n ?_
     obtain ⟨hc_5, H⟩ | ⟨hc_5, H⟩ := ii H
     ·refine c_cond_t h rfl (bt hc_5) <| qr <| mv h rfl fun a h=>s_fieldAddr h rfl U56 rfl ti3 rfl rfl fun a h=>s_load h rfl rfl (hS.load_one (p := 1) rfl U3 rfl rfl) fun a h=>s_fieldAddr h rfl U56 rfl ti3 rfl rfl fun a h=>s_load h rfl rfl (hS.load_one (p := 1) rfl U3 rfl rfl) fun a h=>?_
      have hq_6 : Reps (Kd.int .i64) Mem.no ([x0.Hop, x0.Seq] : List Int) _ := ((Reps.one (d := (Kd.int .i64)) (x := x0.Hop) (show (Kd.int .i64).K _ _ [iV x0.Hop] from rfl)).append ((Reps.one (d := (Kd.int .i64)) (x := x0.Seq) (show (Kd.int .i64).K _ _ [iV x0.Seq] from rfl)).append (Reps.nil (Kd.int .i64) _)))
      refine s_buildSlice h rfl U29 ti3 rfl rfl rfl (.cons rfl (.cons rfl .nil)) rfl rfl rfl hS hq_6 rfl fun w_17 v_12 M_12 hS' ho_6 a h => ?_
      replace hS : Sep w0 w_17 [_, _, _, _, _, M_12] Z := hS'
      obtain ⟨t_8, et_8, H⟩ := bs H
      refine s_callv h rfl rfl Try.call86 rfl (mesg_write_1.calls K ([x0.Hop, x0.Seq] : List Int) _ _ t_1 _ _ t_8 w0 _ _ _ mr (hS.enter [1, 3] (by decide)) (ho_6.rd (hS.own_zed [1, 3] 4 (by decide)) (Mem.no_le _)) hr_1 et_8) ?_
      rintro _ w_18 ⟨v_13, N_15, M_13, rfl, hS', hr_7⟩
      intro a h
      obtain ⟨N_16, hS'', le_8, ln_8⟩ := hS.call [1, 3] (by decide) rfl (l' := [_, _]) (ow := []) rfl hS'
      replace hS : Sep w0 w_18 [N_16, _, _, _, _, _] Z := hS''
      refine nx <| h_begin (S := fun w => Sep w0 w [N_16, bx g_1 56 (E56 x0 p0_0 p0_1 p0_2 p0_3 p0_4 p0_5), Mem.no, M_1, M_13, M_12] Z) 8 (by kernel_rfl) rfl (bA 8 0) (by kernel_rfl) hS fun w_19 hS => ?_
      refine t_take 1 (bA 8 2) rfl rfl rfl rfl h (hS.sub (.cons mr (.rr (.zz .ii)))) (v := .pointer (some ⟨g_1, 14, none⟩)) (fun w hS => r_fieldAddr h U56 rfl ti29 rfl rfl rfl) fun a h=>t_take 2 (bA 8 6) rfl rfl rfl rfl h (hS.sub (.cons mr (.rr (.zz .ii)))) (v := p0_1) (fun w hS => r_load h rfl (hS.load_one (p := 1) rfl U29 rfl rfl)) fun a h=>t_take 4 (bA 8 22) rfl rfl rfl rfl h (hS.sub (.cons mr (.rr (.zz .ii)))) (v := .pointer (some ⟨g_1, 15, none⟩)) (fun w hS => r_fieldAddr h U56 rfl ti29 rfl rfl rfl) fun a h=>t_take 5 (bA 8 54) rfl rfl rfl rfl h (hS.sub (.cons mr (.rr (.zz .ii)))) (v := p0_2) (fun w hS => r_load h rfl (hS.load_one (p := 1) rfl U29 rfl rfl)) fun a h=>h_event 0 (bA 8 55) rfl (by kernel_rfl) (by kernel_rfl) <| s_load h rfl rfl (hS.load_one (p := 2) rfl U22 rfl rfl) fun a h=>wpList_nil <| x_then_n ⟨(hS.sub (.cons mr (.rr (.zz .ii)))), ?_⟩
      refine h_event 3 (bA 8 63) rfl (by kernel_rfl) (by kernel_rfl) ?_
      obtain ⟨t_9, et_9, H⟩ := bs H
      refine s_call h rfl Try.call88 rfl (mesg_row.calls K t_8 _ x0.Have _ t_9 w0 _ _ _ mr (hS.enter [] (by decide)) (hr_7.rd (hS.own_zed [] 3 (by decide)) (Mem.no_le _)) (hp0_1.mono (hA.trans (hS.le_zed []))) et_9) ?_
      rintro v_14 w_20 ⟨_, N_17, M_14, rfl, hS', hr_8⟩
      intro a h
      obtain ⟨N_18, hS'', le_9, ln_9⟩ := hS.call [] (by decide) rfl (l' := []) (ow := [_]) rfl hS'
      replace hS : Sep w0 w_20 [N_18, _, _, _, _, _, _] Z := hS''
      refine ne (hS.sub (.cons le_9 (.rr (.zz (.rr (.rr (.rr .nn))))))) fun hs => ?_
      refine h_event 6 (bA 8 127) rfl (by kernel_rfl) (by kernel_rfl) ?_
      obtain ⟨t_10, et_10, H⟩ := bs H
      refine s_call h rfl Try.call88 rfl (mesg_row.calls K t_9 _ x0.Need _ t_10 w0 _ _ _ mr (hS.enter [] (by decide)) (hr_8.rd (hS.own_zed [] 5 (by decide)) (Mem.no_le _)) (hp0_2.mono (hA.trans (hS.le_zed []))) et_10) ?_
      rintro v_15 w_21 ⟨_, N_19, M_15, rfl, hS', hr_9⟩
      intro a h
      obtain ⟨N_20, hS'', le_10, ln_10⟩ := hS.call [] (by decide) rfl (l' := []) (ow := [_]) rfl hS'
      replace hS : Sep w0 w_21 [N_20, _, _, _, _, _, _, _] Z := hS''
      refine ne (hS.sub (.cons (le_9.trans le_10) (.rr (.zz (.rr (.rr (.rr .nn))))))) fun hs => ?_
      refine h_event 7 (bA 8 255) rfl (by kernel_rfl) (by kernel_rfl) ?_
      refine sto 2 h rfl rfl hS rfl ti22 hr_9.cellsA rfl rfl (oc hr_9.one on0) fun w_22 hS' => ?_
      replace hS : Sep w0 w_22 [_, _, bx g_2 22 [v_15], _, _, _, _, _] Z := hS'
      refine ne (hS.sub (.cons (le_9.trans le_10) (.rr (.zz (.rr (.rr (.rr .nn))))))) fun hs => ?_
      refine h_done (by kernel_rfl) ?_
      replace h : Fr 90 a [(2, _), (3, _)] := h.keep [2, 3]
      refine x_block_n <| x_then_n (hKJ_1 _ _ ?_)
      refine qr <| s_load h rfl rfl (hS.load_one (p := 2) rfl U22 rfl rfl) fun a h=>sg h rfl fun a h=>nx <| wp_ret ?_
      obtain rfl := Option.some.inj H
      exact r1 h 2 rfl rfl ⟨_, rfl, v_15, N_20, M_15, rfl, (hS.sel [0, 7] (by decide)), hr_9⟩
     ·refine c_cond_f h rfl (bf hc_5) <| qr <| s_cmp (b := (x0.Kind == 8)) h rfl rfl rfl (.inl ⟨rfl, rfl⟩) fun a h=>sg h rfl fun a h=>wpList_nil <| x_then_n ?_
      obtain ⟨hc_6, H⟩ | ⟨hc_6, H⟩ := ii H
      ·refine c_cond_t h rfl (bt hc_6) <| qr <| mv h rfl fun a h=>s_fieldAddr h rfl U56 rfl ti3 rfl rfl fun a h=>s_load h rfl rfl (hS.load_one (p := 1) rfl U3 rfl rfl) fun a h=>?_
       have hq_7 : Reps (Kd.int .i64) Mem.no ([x0.Index] : List Int) _ := ((Reps.one (d := (Kd.int .i64)) (x := x0.Index) (show (Kd.int .i64).K _ _ [iV x0.Index] from rfl)).append (Reps.nil (Kd.int .i64) _))
       refine s_buildSlice h rfl U29 ti3 rfl rfl rfl (.cons rfl .nil) rfl rfl rfl hS hq_7 rfl fun w_23 v_16 M_16 hS' ho_7 a h => ?_
       replace hS : Sep w0 w_23 [_, _, _, _, _, M_16] Z := hS'
       obtain ⟨t_11, et_11, H⟩ := bs H
       refine s_callv h rfl rfl Try.call86 rfl (mesg_write_1.calls K ([x0.Index] : List Int) _ _ t_1 _ _ t_11 w0 _ _ _ mr (hS.enter [1, 3] (by decide)) (ho_7.rd (hS.own_zed [1, 3] 4 (by decide)) (Mem.no_le _)) hr_1 et_11) ?_
       rintro _ w_24 ⟨v_17, N_21, M_17, rfl, hS', hr_10⟩
       intro a h
       obtain ⟨N_22, hS'', le_11, ln_11⟩ := hS.call [1, 3] (by decide) rfl (l' := [_, _]) (ow := []) rfl hS'
       replace hS : Sep w0 w_24 [N_22, _, _, _, _, _] Z := hS''
       refine wpList_nil ?_
       replace h : Fr 90 a [(1, _), (2, _), (3, _)] := h.keep [1, 2, 3]
       refine x_then_n <| wp_region_lit <| s_load h rfl rfl (hS.load_one (p := 2) rfl U22 rfl rfl) fun a h=>s_fieldAddr h rfl U56 rfl ti26 rfl rfl fun a h=>s_load h rfl rfl (hS.load_agg (p := 1) (us := (E26 x0.Entry p0_3 p0_4 p0_5)) rfl U26 rfl ti26 rfl rfl) fun a h=>?_
       obtain ⟨t_12, et_12, H⟩ := bs H
       refine s_call h rfl Try.call24 rfl (mach_PutEntry.calls K t_11 _ x0.Entry _ _ _ t_12 w0 _ _ _ mr (hS.enter [] (by decide)) (hr_10.rd (hS.own_zed [] 3 (by decide)) (Mem.no_le _)) (hp0_3.mono (hA.trans (hS.le_zed []))) (hp0_4.mono (hA.trans (hS.le_zed []))) (hp0_5.mono (hA.trans (hS.le_zed []))) et_12) ?_
       rintro v_18 w_25 ⟨_, N_23, M_18, rfl, hS', hr_11⟩
       intro a h
       obtain ⟨N_24, hS'', le_12, ln_12⟩ := hS.call [] (by decide) rfl (l' := []) (ow := [_]) rfl hS'
       replace hS : Sep w0 w_25 [N_24, _, _, _, _, _, _] Z := hS''
       refine sto 2 h rfl rfl hS rfl ti22 hr_11.cellsA rfl rfl (oc hr_11.one on0) fun w_26 hS' => ?_
       replace hS : Sep w0 w_26 [_, _, bx g_2 22 [v_18], _, _, _, _] Z := hS'
       refine wpList_nil <| x_block_n <| x_then_n (hKJ_1 _ _ ?_)
       refine qr <| s_load h rfl rfl (hS.load_one (p := 2) rfl U22 rfl rfl) fun a h=>sg h rfl fun a h=>nx <| wp_ret ?_
       obtain rfl := Option.some.inj H
       exact r1 h 2 rfl rfl ⟨_, rfl, v_18, N_24, M_18, rfl, (hS.sel [0, 6] (by decide)), hr_11⟩
      ·refine c_cond_f h rfl (bf hc_6) <| wp_skip <| x_block_n <| x_then_n (hKJ_1 _ _ ?_)
       refine qr <| s_load h rfl rfl (hS.load_one (p := 2) rfl U22 rfl rfl) fun a h=>sg h rfl fun a h=>wpList_nil ?_
       replace h : Fr 90 a [(2, v_2)] := h.keep [2]
       refine x_then_n <| wp_ret ?_
       obtain rfl := Option.some.inj H
       exact r1 h 2 rfl rfl ⟨_, rfl, v_2, N_2, M_2, rfl, (hS.sel [0, 4] (by decide)), hr_1⟩

set_option maxHeartbeats 4000000 in
set_option maxRecDepth 20000 in
theorem mesg_Encode.calls (K : Nat) (x0 : api_Msg) (p0_0 : Value) (p0_1 : Value) (p0_2 : Value) (p0_3 : Value) (p0_4 : Value) (p0_5 : Value) (r : (List UInt8)) (w0 w : World) (Z A : Mem) (hA : A.le Z) (hS : Sep w0 w [] Z) (hp0_0 : Rd Kd.u8 A p0_0 x0.Data) (hp0_1 : Rd (Kd.int .i64) A p0_1 x0.Have) (hp0_2 : Rd (Kd.int .i64) A p0_2 x0.Need) (hp0_3 : Rd Kd.u8 A p0_3 x0.Entry.Cmd.Key) (hp0_4 : Rd Kd.u8 A p0_4 x0.Entry.Cmd.Val) (hp0_5 : Rd Kd.u8 A p0_5 x0.Entry.Cmd.Old)
    (H : mesg_Encode.f K x0 = some r) :
    Calls Try.prog 50 [.agg (E56 x0 p0_0 p0_1 p0_2 p0_3 p0_4 p0_5).toArray].toArray w (Ret fun v w' => ∃ (u0 : Value) (N : Mem) (M0 : Mem), v = u0 ∧ Sep w0 w' [N, M0] Z ∧ Own Kd.u8 5 M0 Mem.no u0 r) := by
 unfold mesg_Encode.f at H
 refine f_enter _ Try.func50 rfl Try.ntmps50 rfl fun a h=>?_
 replace h : Fr 24 a [(0, .agg (E56 x0 p0_0 p0_1 p0_2 p0_3 p0_4 p0_5).toArray)] := h
 replace hS := hS.start
 refine qr <| v_box (vs := (E56 x0 p0_0 p0_1 p0_2 p0_3 p0_4 p0_5)) h rfl rfl rfl hS fun w_1 g_1 hS' a h => ?_
 replace hS : Sep w0 w_1 [_, bx g_1 56 (E56 x0 p0_0 p0_1 p0_2 p0_3 p0_4 p0_5)] Z := hS'
 refine sg h rfl fun a h=>nx <| c_seq fun KJ_1 hKJ_1 => qr <| s_load h rfl rfl (hS.load_agg (p := 1) (us := (E56 x0 p0_0 p0_1 p0_2 p0_3 p0_4 p0_5)) rfl U56 rfl ti56 rfl rfl) fun a h=>?_
 obtain ⟨t_1, et_1, H⟩ := bs H
 refine s_call h rfl Try.call70 rfl (mesg_beyond.calls x0 _ _ _ _ _ _ t_1 w0 _ _ _ mr (hS.enter [] (by decide)) (hp0_0.mono (hA.trans (hS.le_zed []))) (hp0_1.mono (hA.trans (hS.le_zed []))) (hp0_2.mono (hA.trans (hS.le_zed []))) (hp0_3.mono (hA.trans (hS.le_zed []))) (hp0_4.mono (hA.trans (hS.le_zed []))) (hp0_5.mono (hA.trans (hS.le_zed []))) et_1) ?_
 rintro _ w_2 ⟨N_1, rfl, hS'⟩
 intro a h
 obtain ⟨N_2, hS'', le_1, ln_1⟩ := hS.call [] (by decide) rfl (l' := []) (ow := []) rfl hS'
 replace hS : Sep w0 w_2 [N_2, _] Z := hS''
 refine wpList_nil <| x_then_n ?_
 obtain ⟨hc_1, H⟩ | ⟨hc_1, H⟩ := ii H
 ·refine c_cond_t h rfl hc_1 <| qr <| sg h rfl fun a h=>nx <| wp_ret (x_then_r ?_)
  have hS' := hS.room
  replace hS : Sep w0 w_2 [_, _, Mem.no] Z := hS'
  obtain rfl := Option.some.inj H
  exact r1 h 2 rfl rfl ⟨_, rfl, nS, N_2, Mem.no, rfl, (hS.sel [0, 2] (by decide)), (Own.nil Kd.u8 5 Mem.no)⟩
 ·refine c_cond_f h rfl (ef hc_1) <| wp_skip <| x_then_n (hKJ_1 _ _ ?_)
  refine qr <| s_load h rfl rfl (hS.load_agg (p := 1) (us := (E56 x0 p0_0 p0_1 p0_2 p0_3 p0_4 p0_5)) rfl U56 rfl ti56 rfl rfl) fun a h=>?_
  obtain ⟨t_2, et_2, H⟩ := bs H
  refine s_call h rfl Try.call71 rfl (mesg_write.calls K x0 _ _ _ _ _ _ t_2 w0 _ _ _ mr (hS.enter [] (by decide)) (hp0_0.mono (hA.trans (hS.le_zed []))) (hp0_1.mono (hA.trans (hS.le_zed []))) (hp0_2.mono (hA.trans (hS.le_zed []))) (hp0_3.mono (hA.trans (hS.le_zed []))) (hp0_4.mono (hA.trans (hS.le_zed []))) (hp0_5.mono (hA.trans (hS.le_zed []))) et_2) ?_
  rintro v_1 w_3 ⟨_, N_3, M_1, rfl, hS', hr_1⟩
  intro a h
  obtain ⟨N_4, hS'', le_2, ln_2⟩ := hS.call [] (by decide) rfl (l' := []) (ow := [_]) rfl hS'
  replace hS : Sep w0 w_3 [N_4, _, _] Z := hS''
  refine sg h rfl fun a h=>nx <| c_seq fun KJ_2 hKJ_2 => qr <| mv h rfl fun a h=>?_
  obtain ⟨t_3, et_3, H⟩ := bs H
  refine s_call h rfl Try.call72 rfl (mesg_read.calls K t_2 _ t_3 w0 _ _ _ mr (hS.enter [] (by decide)) (hr_1.rd (hS.own_zed [] 1 (by decide)) (Mem.no_le _)) et_3) ?_
  rintro _ w_4 ⟨v_2, v_3, v_4, v_5, v_6, v_7, N_5, M_2, M_3, M_4, M_5, M_6, M_7, rfl, hS', hr_2, hr_3, hr_4, hr_5, hr_6, hr_7⟩
  intro a h
  obtain ⟨N_6, hS'', le_3, ln_3⟩ := hS.call [] (by decide) rfl (l' := []) (ow := [_, _, _, _, _, _]) rfl hS'
  replace hS : Sep w0 w_4 [N_6, _, _, _, _, _, _, _, _] Z := hS''
  refine mv h rfl fun a h=>s_extract h rfl rfl rfl fun a h=>s_extract h rfl rfl rfl fun a h=>v_alloc h rfl ti56 hS fun w_5 g_2 hS' a h => ?_
  replace hS : Sep w0 w_5 [_, _, _, _, _, _, _, _, _, bx g_2 56 Q0] Z := hS'
  refine sto 9 h rfl rfl hS rfl ti56 rfl rfl rfl (oa 11 rfl (oc hr_2.one (oa 2 rfl (oc hr_3.one (oc hr_4.one (oa 5 rfl (oc hr_5.one (oc hr_6.one (oc hr_7.one on0))))))))) fun w_6 hS' => ?_
  replace hS : Sep w0 w_6 [_, _, _, _, _, _, _, _, _, bx g_2 56 (E56 t_3.1 v_2 v_3 v_4 v_5 v_6 v_7)] Z := hS'
  refine sg h rfl fun a h=>wpList_nil ?_
  replace h : Fr 24 a [(1, .pointer (some ⟨g_1, 0, none⟩)), (2, nS), (3, v_1), (4, .pointer (some ⟨g_2, 0, none⟩)), (5, .bool t_3.2)] := h.keep [1, 2, 3, 4, 5]
  refine x_then_n <| c_seq fun KJ_3 hKJ_3 => wp_region_lit <| mv h rfl fun a h=>s_not h rfl rfl fun a h=>mv h rfl fun a h=>?_
  obtain ⟨hc_2, H⟩ | ⟨hc_2, H⟩ := ii H
  ·refine s_on h rfl rfl (nf hc_2) <| s_load h rfl rfl (hS.load_agg (p := 9) (us := (E56 t_3.1 v_2 v_3 v_4 v_5 v_6 v_7)) rfl U56 rfl ti56 rfl rfl) fun a h=>s_on h rfl rfl (nf hc_2) <| s_load h rfl rfl (hS.load_agg (p := 1) (us := (E56 x0 p0_0 p0_1 p0_2 p0_3 p0_4 p0_5)) rfl U56 rfl ti56 rfl rfl) fun a h=>s_on h rfl rfl (nf hc_2) ?_
   obtain ⟨t_4, et_4, H⟩ := bs H
   refine s_call h rfl Try.call73 rfl (mesg_alike.calls K t_3.1 _ _ _ _ _ _ x0 _ _ _ _ _ _ t_4 w0 _ _ _ mr (hS.enter [] (by decide)) (hr_2.rd (hS.own_zed [] 2 (by decide)) (Mem.no_le _)) (hr_3.rd (hS.own_zed [] 3 (by decide)) (Mem.no_le _)) (hr_4.rd (hS.own_zed [] 4 (by decide)) (Mem.no_le _)) (hr_5.rd (hS.own_zed [] 5 (by decide)) (Mem.no_le _)) (hr_6.rd (hS.own_zed [] 6 (by decide)) (Mem.no_le _)) (hr_7.rd (hS.own_zed [] 7 (by decide)) (Mem.no_le _)) (hp0_0.mono (hA.trans (hS.le_zed []))) (hp0_1.mono (hA.trans (hS.le_zed []))) (hp0_2.mono (hA.trans (hS.le_zed []))) (hp0_3.mono (hA.trans (hS.le_zed []))) (hp0_4.mono (hA.trans (hS.le_zed []))) (hp0_5.mono (hA.trans (hS.le_zed []))) et_4) ?_
   rintro _ w_7 ⟨N_7, rfl, hS'⟩
   intro a h
   obtain ⟨N_8, hS'', le_4, ln_4⟩ := hS.call [] (by decide) rfl (l' := []) (ow := []) rfl hS'
   replace hS : Sep w0 w_7 [N_8, _, _, _, _, _, _, _, _, _] Z := hS''
   refine s_on h rfl rfl (nf hc_2) <| s_not h rfl rfl fun a h=>pf h rfl (nf hc_2) fun a h=>wpList_nil <| x_then_n (hKJ_3 _ _ ?_)
   obtain ⟨hc_3, H⟩ | ⟨hc_3, H⟩ := ii H
   ·refine c_cond_f h rfl (nf hc_3) <| wp_skip <| x_then_n (hKJ_2 _ _ ?_)
    refine qr <| mv h rfl fun a h=>sg h rfl fun a h=>nx <| wp_ret ?_
    obtain rfl := Option.some.inj H
    exact r1 h 2 rfl rfl ⟨_, rfl, v_1, N_8, M_1, rfl, (hS.sel [0, 2] (by decide)), hr_1⟩
   ·refine c_cond_t h rfl (nt (ef hc_3)) <| qr <| sg h rfl fun a h=>nx <| wp_ret (x_then_r ?_)
    have hS' := hS.room
    replace hS : Sep w0 w_7 [_, _, _, _, _, _, _, _, _, _, Mem.no] Z := hS'
    obtain rfl := Option.some.inj H
    exact r1 h 2 rfl rfl ⟨_, rfl, nS, N_8, Mem.no, rfl, (hS.sel [0, 10] (by decide)), (Own.nil Kd.u8 5 Mem.no)⟩
  ·refine of h rfl rfl (nt (ef hc_2)) fun a h=>of h rfl rfl (nt (ef hc_2)) fun a h=>of h rfl rfl (nt (ef hc_2)) fun a h=>of h rfl rfl (nt (ef hc_2)) fun a h=>pt h rfl (nt (ef hc_2)) fun a h=>wpList_nil <| x_then_n (hKJ_3 _ _ ?_)
   refine c_cond_t h rfl rfl <| qr <| sg h rfl fun a h=>nx <| wp_ret (x_then_r ?_)
   have hS' := hS.room
   replace hS : Sep w0 w_6 [_, _, _, _, _, _, _, _, _, _, Mem.no] Z := hS'
   obtain rfl := Option.some.inj H
   exact r1 h 2 rfl rfl ⟨_, rfl, nS, N_6, Mem.no, rfl, (hS.sel [0, 10] (by decide)), (Own.nil Kd.u8 5 Mem.no)⟩

set_option maxHeartbeats 4000000 in
set_option maxRecDepth 20000 in
theorem xfer_Serve.calls (K : Nat) (x0 : List UInt8) (p0_0 : Value) (x1 : api_Msg) (p1_1 : Value) (p1_2 : Value) (p1_3 : Value) (p1_4 : Value) (p1_5 : Value) (p1_6 : Value) (r : api_Msg × Bool) (w0 w : World) (Z A : Mem) (hA : A.le Z) (hS : Sep w0 w [] Z) (hp0_0 : Rd Kd.u8 A p0_0 x0) (hp1_1 : Rd Kd.u8 A p1_1 x1.Data) (hp1_2 : Rd (Kd.int .i64) A p1_2 x1.Have) (hp1_3 : Rd (Kd.int .i64) A p1_3 x1.Need) (hp1_4 : Rd Kd.u8 A p1_4 x1.Entry.Cmd.Key) (hp1_5 : Rd Kd.u8 A p1_5 x1.Entry.Cmd.Val) (hp1_6 : Rd Kd.u8 A p1_6 x1.Entry.Cmd.Old)
    (H : xfer_Serve.f K x0 x1 = some r) :
    Calls Try.prog 20 [p0_0, .agg (E56 x1 p1_1 p1_2 p1_3 p1_4 p1_5 p1_6).toArray].toArray w (Ret fun v w' => ∃ (u0 : Value) (u1 : Value) (u2 : Value) (u3 : Value) (u4 : Value) (u5 : Value) (N : Mem) (M0 : Mem) (M1 : Mem) (M2 : Mem) (M3 : Mem) (M4 : Mem) (M5 : Mem), v = .tuple [.agg (E56 r.1 u0 u1 u2 u3 u4 u5).toArray, .bool r.2].toArray ∧ Sep w0 w' [N, M0, M1, M2, M3, M4, M5] Z ∧ Own Kd.u8 5 M0 Mem.no u0 r.1.Data ∧ Own (Kd.int .i64) 3 M1 Mem.no u1 r.1.Have ∧ Own (Kd.int .i64) 3 M2 Mem.no u2 r.1.Need ∧ Own Kd.u8 5 M3 Mem.no u3 r.1.Entry.Cmd.Key ∧ Own Kd.u8 5 M4 Mem.no u4 r.1.Entry.Cmd.Val ∧ Own Kd.u8 5 M5 Mem.no u5 r.1.Entry.Cmd.Old) := by
 unfold xfer_Serve.f at H
 refine f_enter _ Try.func20 rfl Try.ntmps20 rfl fun a h=>?_
 replace h : Fr 41 a [(0, p0_0), (1, .agg (E56 x1 p1_1 p1_2 p1_3 p1_4 p1_5 p1_6).toArray)] := h
 replace hS := hS.start
 refine qr <| v_box (vs := (E56 x1 p1_1 p1_2 p1_3 p1_4 p1_5 p1_6)) h rfl rfl rfl hS fun w_1 g_1 hS' a h => ?_
 replace hS : Sep w0 w_1 [_, bx g_1 56 (E56 x1 p1_1 p1_2 p1_3 p1_4 p1_5 p1_6)] Z := hS'
 refine v_alloc h rfl ti56 hS fun w_2 g_2 hS' a h => ?_
 replace hS : Sep w0 w_2 [_, _, bx g_2 56 Q0] Z := hS'
 refine sg h rfl fun a h=>nx <| qr <| mv h rfl fun a h=>s_fieldAddr h rfl U56 rfl ti3 rfl rfl fun a h=>s_load h rfl rfl (hS.load_one (p := 1) rfl U3 rfl rfl) fun a h=>?_
 obtain ⟨t_1, et_1, H⟩ := bs H
 refine s_call h rfl Try.call14 rfl (blob_Part.calls x0 _ x1.At t_1 w0 _ _ _ mr (hS.enter [] (by decide)) (hp0_0.mono (hA.trans (hS.le_zed []))) et_1) ?_
 rintro _ w_3 ⟨v_1, N_1, M_1, rfl, hS', hr_1⟩
 intro a h
 obtain ⟨N_2, hS'', le_1, ln_1⟩ := hS.call [] (by decide) rfl (l' := []) (ow := [_]) rfl hS'
 replace hS : Sep w0 w_3 [N_2, _, _, _] Z := hS''
 refine mv h rfl fun a h=>s_extract h rfl rfl rfl fun a h=>s_extract h rfl rfl rfl fun a h=>sg h rfl fun a h=>sg h rfl fun a h=>nx <| c_seq fun KJ_1 hKJ_1 => c_seq fun KJ_2 hKJ_2 => ?_
 have hJ_j_1 : ∀ (x_1 : Bool), xfer_Serve.J1 K x1 x0 t_1 x_1 = some r → ∀ (a : Act) (w_4 : World), (∃ (N_3 : Mem), Fr 41 a [(0, p0_0), (3, .pointer (some ⟨g_1, 0, none⟩)), (4, .pointer (some ⟨g_2, 0, none⟩)), (5, .bool false), (6, v_1), (27, .bool x_1)] ∧ Sep w0 w_4 [N_3, bx g_1 56 (E56 x1 p1_1 p1_2 p1_3 p1_4 p1_5 p1_6), bx g_2 56 Q0, M_1] Z ∧ N_2.le N_3) → KJ_2 a w_4 := by
  clear H h hS a
  rintro x_1 H a w_4 ⟨N_3, h, hS, le_2⟩
  unfold xfer_Serve.J1 at H
  refine hKJ_2 _ _ ?_
  obtain ⟨hc_1, H⟩ | ⟨hc_1, H⟩ := ii H
  ·refine c_cond_t h rfl hc_1 <| qr <| s_build h rfl ti56 pl56 rfl .nil (cs := Q0) (by kernel_rfl) fun a h=>?_
   refine sto 2 h rfl rfl hS rfl ti56 rfl rfl rfl (oz rfl) fun w_5 hS' => ?_
   replace hS : Sep w0 w_5 [_, _, _, _] Z := hS'
   refine sg h rfl fun a h=>nx <| wp_ret (x_then_r ?_)
   have hS' := hS.room
   replace hS : Sep w0 w_5 [_, _, _, _, Mem.no] Z := hS'
   have hS' := hS.room
   replace hS : Sep w0 w_5 [_, _, _, _, _, Mem.no] Z := hS'
   have hS' := hS.room
   replace hS : Sep w0 w_5 [_, _, _, _, _, _, Mem.no] Z := hS'
   have hS' := hS.room
   replace hS : Sep w0 w_5 [_, _, _, _, _, _, _, Mem.no] Z := hS'
   have hS' := hS.room
   replace hS : Sep w0 w_5 [_, _, _, _, _, _, _, _, Mem.no] Z := hS'
   have hS' := hS.room
   replace hS : Sep w0 w_5 [_, _, _, _, _, _, _, _, _, Mem.no] Z := hS'
   obtain rfl := Option.some.inj H
   exact f_ret h (rs := [.cell 4 56, .tmp 5]) rfl (.cell rfl (hS.load_agg (p := 2) (us := Q0) rfl U56 rfl ti56 rfl rfl) (.tmp rfl .nil)) ⟨_, rfl, nS, nS, nS, nS, nS, nS, N_3, Mem.no, Mem.no, Mem.no, Mem.no, Mem.no, Mem.no, rfl, (hS.sel [0, 4, 5, 6, 7, 8, 9] (by decide)), (Own.nil Kd.u8 5 Mem.no), (Own.nil (Kd.int .i64) 3 Mem.no), (Own.nil (Kd.int .i64) 3 Mem.no), (Own.nil Kd.u8 5 Mem.no), (Own.nil Kd.u8 5 Mem.no), (Own.nil Kd.u8 5 Mem.no)⟩
  ·refine c_cond_f h rfl (ef hc_1) <| wp_skip <| x_then_n (hKJ_1 _ _ ?_)
   refine qr <| s_fieldAddr h rfl U56 rfl ti3 rfl rfl fun a h=>s_load h rfl rfl (hS.load_one (p := 1) rfl U3 rfl rfl) fun a h=>s_fieldAddr h rfl U56 rfl ti3 rfl rfl fun a h=>s_load h rfl rfl (hS.load_one (p := 1) rfl U3 rfl rfl) fun a h=>s_fieldAddr h rfl U56 rfl ti3 rfl rfl fun a h=>s_load h rfl rfl (hS.load_one (p := 1) rfl U3 rfl rfl) fun a h=>s_fieldAddr h rfl U56 rfl ti3 rfl rfl fun a h=>s_load h rfl rfl (hS.load_one (p := 1) rfl U3 rfl rfl) fun a h=>mv h rfl fun a h=>s_len h rfl U22 rfl hp0_0 fun a h=>?_
   refine mv h rfl fun a h=>s_build h rfl ti56 pl56 rfl (.cons rfl (.cons rfl (.cons rfl (.cons rfl (.cons rfl (.cons rfl (.cons hr_1.cells .nil))))))) (cs := [iV 5, iV x1.To, iV x1.From, iV x1.View, iV 0, iV 0, .bool false, iV 0, iV 0, iV x1.At, iV (x0.length : Int), v_1, iV 0, iV 0, nS, nS, iV 0, iV 0, iV 0, iV 0, iV 0, nS, nS, nS]) (by kernel_rfl) fun a h=>?_
   refine sto 2 h rfl rfl hS rfl ti56 rfl rfl rfl (oa 11 rfl (oc hr_1.one (oz rfl))) fun w_6 hS' => ?_
   replace hS : Sep w0 w_6 [_, _, bx g_2 56 [iV 5, iV x1.To, iV x1.From, iV x1.View, _, _, _, _, _, iV x1.At, iV (x0.length : Int), v_1, _, _, _, _, _, _, _, _, _, _, _, _], _] Z := hS'
   refine sg h rfl fun a h=>nx <| wp_ret ?_
   have hS' := hS.room
   replace hS : Sep w0 w_6 [_, _, _, _, Mem.no] Z := hS'
   have hS' := hS.room
   replace hS : Sep w0 w_6 [_, _, _, _, _, Mem.no] Z := hS'
   have hS' := hS.room
   replace hS : Sep w0 w_6 [_, _, _, _, _, _, Mem.no] Z := hS'
   have hS' := hS.room
   replace hS : Sep w0 w_6 [_, _, _, _, _, _, _, Mem.no] Z := hS'
   have hS' := hS.room
   replace hS : Sep w0 w_6 [_, _, _, _, _, _, _, _, Mem.no] Z := hS'
   obtain rfl := Option.some.inj H
   exact f_ret h (rs := [.cell 4 56, .tmp 5]) rfl (.cell rfl (hS.load_agg (p := 2) (us := [iV 5, iV x1.To, iV x1.From, iV x1.View, iV 0, iV 0, .bool false, iV 0, iV 0, iV x1.At, iV (x0.length : Int), v_1, iV 0, iV 0, nS, nS, iV 0, iV 0, iV 0, iV 0, iV 0, nS, nS, nS]) rfl U56 rfl ti56 rfl rfl) (.tmp rfl .nil)) ⟨_, rfl, v_1, nS, nS, nS, nS, nS, N_3, M_1, Mem.no, Mem.no, Mem.no, Mem.no, Mem.no, rfl, (hS.sel [0, 3, 4, 5, 6, 7, 8] (by decide)), hr_1, (Own.nil (Kd.int .i64) 3 Mem.no), (Own.nil (Kd.int .i64) 3 Mem.no), (Own.nil Kd.u8 5 Mem.no), (Own.nil Kd.u8 5 Mem.no), (Own.nil Kd.u8 5 Mem.no)⟩
 clear hKJ_2
 refine wp_region_lit <| s_fieldAddr h rfl U56 rfl ti3 rfl rfl fun a h=>s_load h rfl rfl (hS.load_one (p := 1) rfl U3 rfl rfl) fun a h=>s_cmp (b := (x1.Kind != 4)) h rfl rfl rfl (.inr (.inl ⟨rfl, rfl⟩)) fun a h=>mv h rfl fun a h=>?_
 obtain ⟨hc_2, H⟩ | ⟨hc_2, H⟩ := ii H
 ·refine s_on h rfl rfl (xf hc_2) <| mv h rfl fun a h=>s_on h rfl rfl (xf hc_2) <| s_not h rfl rfl fun a h=>pf h rfl (xf hc_2) fun a h=>mv h rfl fun a h=>?_
  obtain ⟨hc_3, H⟩ | ⟨hc_3, H⟩ := ii H
  ·refine s_on h rfl rfl (nf hc_3) <| s_load h rfl rfl (hS.load_agg (p := 1) (us := (E56 x1 p1_1 p1_2 p1_3 p1_4 p1_5 p1_6)) rfl U56 rfl ti56 rfl rfl) fun a h=>s_on h rfl rfl (nf hc_3) ?_
   obtain ⟨t_2, et_2, H⟩ := bs H
   refine s_call h rfl Try.call50 rfl (mesg_Encode.calls K x1 _ _ _ _ _ _ t_2 w0 _ _ _ mr (hS.enter [] (by decide)) (hp1_1.mono (hA.trans (hS.le_zed []))) (hp1_2.mono (hA.trans (hS.le_zed []))) (hp1_3.mono (hA.trans (hS.le_zed []))) (hp1_4.mono (hA.trans (hS.le_zed []))) (hp1_5.mono (hA.trans (hS.le_zed []))) (hp1_6.mono (hA.trans (hS.le_zed []))) et_2) ?_
   rintro v_2 w_7 ⟨_, N_4, M_2, rfl, hS', hr_2⟩
   intro a h
   obtain ⟨N_5, hS'', le_3, ln_2⟩ := hS.call [] (by decide) rfl (l' := []) (ow := [_]) rfl hS'
   replace hS : Sep w0 w_7 [N_5, _, _, _, _] Z := hS''
   refine s_on h rfl rfl (nf hc_3) <| s_lenO h rfl U22 rfl hr_2 fun a h=>s_on h rfl rfl (nf hc_3) <| s_cmp (b := ((t_2.length : Int) == 0)) h rfl rfl rfl (.inl ⟨rfl, rfl⟩) fun a h=>pf h rfl (nf hc_3) fun a h=>wpList_nil ?_
   exact x_then_n (hJ_j_1 ((t_2.length : Int) == 0) H _ _ ⟨N_5, (h.to rfl), (hS.sel [0, 1, 2, 3] (by decide)), le_3⟩)
  ·refine of h rfl rfl (nt (ef hc_3)) fun a h=>of h rfl rfl (nt (ef hc_3)) fun a h=>of h rfl rfl (nt (ef hc_3)) fun a h=>of h rfl rfl (nt (ef hc_3)) fun a h=>pt h rfl (nt (ef hc_3)) fun a h=>wpList_nil ?_
   exact x_then_n (hJ_j_1 true H _ _ ⟨N_2, (h.to rfl), (hS.sel [0, 1, 2, 3] (by decide)), mr⟩)
 ·refine of h rfl rfl (xt hc_2) fun a h=>of h rfl rfl (xt hc_2) fun a h=>pt h rfl (xt hc_2) fun a h=>mv h rfl fun a h=>oo h rfl rfl fun a h=>oo h rfl rfl fun a h=>oo h rfl rfl fun a h=>oo h rfl rfl fun a h=>pt h rfl rfl fun a h=>wpList_nil ?_
  exact x_then_n (hJ_j_1 true H _ _ ⟨N_2, (h.to rfl), (hS.sel [0, 1, 2, 3] (by decide)), mr⟩)

set_option maxHeartbeats 4000000 in
set_option maxRecDepth 20000 in
theorem mach_right_1.calls (x0 : api_Pair) (p0_0 : Value) (p0_1 : Value) (x1 : api_Pair) (p1_2 : Value) (p1_3 : Value) (r : Bool) (w0 w : World) (Z A : Mem) (hA : A.le Z) (hS : Sep w0 w [] Z) (hp0_0 : Rd Kd.u8 A p0_0 x0.Key) (hp0_1 : Rd Kd.u8 A p0_1 x0.Val) (hp1_2 : Rd Kd.u8 A p1_2 x1.Key) (hp1_3 : Rd Kd.u8 A p1_3 x1.Val)
    (H : mach_right_1.f x0 x1 = some r) :
    Calls Try.prog 94 [.agg ([p0_0, p0_1] : List Value).toArray, .agg ([p1_2, p1_3] : List Value).toArray].toArray w (Ret fun v w' => ∃ (N : Mem), v = .bool r ∧ Sep w0 w' [N] Z) := by
 unfold mach_right_1.f at H
 refine f_enter _ Try.func94 rfl Try.ntmps94 rfl fun a h=>?_
 replace h : Fr 11 a [(0, .agg ([p0_0, p0_1] : List Value).toArray), (1, .agg ([p1_2, p1_3] : List Value).toArray)] := h
 replace hS := hS.start
 refine qr <| v_box (vs := [p0_0, p0_1]) h rfl rfl rfl hS fun w_1 g_1 hS' a h => ?_
 replace hS : Sep w0 w_1 [_, bx g_1 88 [p0_0, p0_1]] Z := hS'
 refine v_box (vs := [p1_2, p1_3]) h rfl rfl rfl hS fun w_2 g_2 hS' a h => ?_
 replace hS : Sep w0 w_2 [_, _, bx g_2 88 [p1_2, p1_3]] Z := hS'
 refine sg h rfl fun a h=>nx <| qr <| s_fieldAddr h rfl U88 rfl ti22 rfl rfl fun a h=>s_load h rfl rfl (hS.load_one (p := 1) rfl U22 rfl rfl) fun a h=>s_fieldAddr h rfl U88 rfl ti22 rfl rfl fun a h=>s_load h rfl rfl (hS.load_one (p := 2) rfl U22 rfl rfl) fun a h=>?_
 obtain ⟨t_1, et_1, H⟩ := bs H
 refine s_call h rfl Try.call95 rfl (bytes_Compare.calls x0.Key _ x1.Key _ t_1 w0 _ _ _ mr (hS.enter [] (by decide)) (hp0_0.mono (hA.trans (hS.le_zed []))) (hp1_2.mono (hA.trans (hS.le_zed []))) et_1) ?_
 rintro _ w_3 ⟨N_1, rfl, hS'⟩
 intro a h
 obtain ⟨N_2, hS'', le_1, ln_1⟩ := hS.call [] (by decide) rfl (l' := []) (ow := []) rfl hS'
 replace hS : Sep w0 w_3 [N_2, _, _] Z := hS''
 refine s_cmp (b := decide (t_1 > 0)) h rfl rfl rfl (.inr (.inr (.inr (.inr (.inl ⟨rfl, rfl⟩))))) fun a h=>sg h rfl fun a h=>nx <| wp_ret ?_
 obtain rfl := Option.some.inj H
 exact r1 h 4 rfl rfl ⟨_, rfl, N_2, rfl, (hS.sel [0] (by decide))⟩

set_option maxHeartbeats 4000000 in
set_option maxRecDepth 20000 in
theorem mach_rising_hocket_api_Pair_94.calls (K : Nat) (x0 : List api_Pair) (p0_0 : Value) (r : Bool) (w0 w : World) (Z A : Mem) (hA : A.le Z) (hS : Sep w0 w [] Z) (hp0_0 : Rd k_api_Pair A p0_0 x0)
    (H : mach_rising_hocket_api_Pair_94.f K x0 = some r) :
    Calls Try.prog 93 [p0_0, .func (.func 94) #[] [].toArray].toArray w (Ret fun v w' => ∃ (N : Mem), v = .bool r ∧ Sep w0 w' [N] Z) := by
 unfold mach_rising_hocket_api_Pair_94.f at H
 refine f_enter _ Try.func93 rfl Try.ntmps93 rfl fun a h=>?_
 replace h : Fr 24 a [(0, p0_0), (1, .func (.func 94) #[] [].toArray)] := h
 replace hS := hS.start
 refine qr <| sg h rfl fun a h=>nx <| c_seq fun KJ_1 hKJ_1 => qr <| sg h rfl fun a h=>wpList_nil <| x_then_n ?_
 have hJ_j_1 : mach_rising_hocket_api_Pair_94.J1 K = some r → ∀ (a : Act) (w_1 : World), (∃ (N_1 : Mem), Fr 24 a [(4, .bool false)] ∧ Sep w0 w_1 [N_1] Z ∧ Mem.no.le N_1) → KJ_1 a w_1 := by
  clear H h hS a
  rintro H a w_1 ⟨N_1, h, hS, le_1⟩
  unfold mach_rising_hocket_api_Pair_94.J1 at H
  refine hKJ_1 _ _ <| qr <| sg h rfl fun a h=>nx <| wp_ret ?_
  obtain rfl := Option.some.inj H
  exact r1 h 4 rfl rfl ⟨_, rfl, N_1, rfl, (hS.sel [0] (by decide))⟩
 clear hKJ_1
 refine c_block <| c_loop (fun k_1 a w_2 => ∃ (x_1 : Int) (N_2 : Mem), mach_rising_hocket_api_Pair_94.L1 K x0 (fun v => mach_rising_hocket_api_Pair_94.J1 K) k_1 x_1 = some r ∧ Fr 24 a [(0, p0_0), (1, .func (.func 94) #[] [].toArray), (4, .bool false), (5, iV x_1)] ∧ Sep w0 w_2 [N_2] Z ∧ Mem.no.le N_2) K ⟨1, Mem.no, H, (h.to rfl), (hS.sel [0] (by decide)), mr⟩ (fun a w h => by obtain ⟨_, _, H, _⟩ := h; cases (show (none : Option (Bool)) = some r from H)) ?_
 clear h hS a H
 rintro k_1 a w_2 KL_1 hKL_1 ⟨x_1, N_2, H, h, hS, le_2⟩
 replace H : mach_rising_hocket_api_Pair_94.B1 K x0 (fun v => mach_rising_hocket_api_Pair_94.J1 K) (mach_rising_hocket_api_Pair_94.L1 K x0 (fun v => mach_rising_hocket_api_Pair_94.J1 K) k_1) x_1 = some r := H
 unfold mach_rising_hocket_api_Pair_94.B1 at H
 refine c_seq fun KJ_2 hKJ_2 => qr <| mv h rfl fun a h=>mv h rfl fun a h=>s_len h rfl U30 rfl hp0_0 fun a h=>s_cmp (b := decide (x_1 < (x0.length : Int))) h rfl rfl rfl (.inr (.inr (.inl ⟨rfl, rfl⟩))) fun a h=>wpList_nil <| x_then_n ?_
 obtain ⟨hc_1, H⟩ | ⟨hc_1, H⟩ := ii H
 ·refine c_cond_t h rfl (dt hc_1) <| wp_skip <| x_then_n (hKJ_2 _ _ ?_)
  refine c_seq fun KJ_3 hKJ_3 => c_block <| c_seq fun KJ_4 hKJ_4 => h_begin (S := fun w => Sep w0 w [N_2] Z) 12 (by kernel_rfl) rfl (bA 12 0) (by kernel_rfl) hS fun w_3 hS => ?_
  refine t_take 0 (bA 12 1) rfl rfl rfl rfl h (hS.sub .ii) (v := .func (.func 94) #[] [].toArray) (fun w hS => r_move h rfl) fun a h=>t_take 1 (bA 12 3) rfl rfl rfl rfl h (hS.sub .ii) (v := p0_0) (fun w hS => r_move h rfl) fun a h=>t_take 2 (bA 12 7) rfl rfl rfl rfl h (hS.sub .ii) (v := iV x_1) (fun w hS => r_move h rfl) fun a h=>?_
  obtain ⟨t_1, et_1, H⟩ := bs H
  refine t_takeE 3 (bA 12 15) rfl rfl rfl rfl h (hS.sub .ii) (f := fun ad => .pointer (some ad)) (r_index h U30 ti88 rfl rfl rfl hp0_0 et_1) ?_
  rintro ad_1 ⟨cs_1, hk_1, hc_2⟩
  obtain ⟨v_1, v_2, rfl, hr_1, hr_2⟩ := k_api_Pair.open' hk_1
  intro a h
  refine t_take 4 (bA 12 31) rfl rfl rfl rfl h (hS.sub .ii) (v := .agg ([v_1, v_2] : List Value).toArray) (fun w hS => r_load h rfl (el_agg (o := 0) (us := [v_1, v_2]) (fun j c h => Mem.cell_le (hA.trans hS.old) (hc_2 j c h)) U88 rfl ti88 rfl rfl)) fun a h=>t_take 5 (bA 12 63) rfl rfl rfl rfl h (hS.sub .ii) (v := p0_0) (fun w hS => r_move h rfl) fun a h=>t_take 6 (bA 12 127) rfl rfl rfl rfl h (hS.sub .ii) (v := iV x_1) (fun w hS => r_move h rfl) fun a h=>t_take 7 (bA 12 255) rfl rfl rfl rfl h (hS.sub .ii) (v := iV (w64 (x_1 - 1))) (fun w hS => r_arith (r := w64 (x_1 - 1)) h rfl rfl (.inr (.inl ⟨rfl, rfl⟩))) fun a h=>?_
  obtain ⟨t_2, et_2, H⟩ := bs H
  refine t_takeE 8 (bA 12 511) rfl rfl rfl rfl h (hS.sub .ii) (f := fun ad => .pointer (some ad)) (r_index h U30 ti88 rfl rfl rfl hp0_0 et_2) ?_
  rintro ad_2 ⟨cs_2, hk_2, hc_3⟩
  obtain ⟨v_3, v_4, rfl, hr_3, hr_4⟩ := k_api_Pair.open' hk_2
  intro a h
  refine t_take 9 (bA 12 1023) rfl rfl rfl rfl h (hS.sub .ii) (v := .agg ([v_3, v_4] : List Value).toArray) (fun w hS => r_load h rfl (el_agg (o := 0) (us := [v_3, v_4]) (fun j c h => Mem.cell_le (hA.trans hS.old) (hc_3 j c h)) U88 rfl ti88 rfl rfl)) fun a h=>h_event 10 (bA 12 2047) rfl (by kernel_rfl) (by kernel_rfl) ?_
  obtain ⟨t_3, et_3, H⟩ := bs H
  refine s_callv h rfl rfl Try.call94 rfl (mach_right_1.calls t_1 _ _ t_2 _ _ t_3 w0 _ _ _ mr (hS.enter [] (by decide)) (hr_1.mono (hA.trans (hS.le_zed []))) (hr_2.mono (hA.trans (hS.le_zed []))) (hr_3.mono (hA.trans (hS.le_zed []))) (hr_4.mono (hA.trans (hS.le_zed []))) et_3) ?_
  rintro _ w_4 ⟨N_3, rfl, hS'⟩
  intro a h
  obtain ⟨N_4, hS'', le_3, ln_1⟩ := hS.call [] (by decide) rfl (l' := []) (ow := []) rfl hS'
  replace hS : Sep w0 w_4 [N_4] Z := hS''
  refine ne (hS.sub (.cons le_3 .ii)) fun hs => ?_
  refine t_take 11 (bA 12 4095) rfl rfl rfl rfl h hs (v := .bool (!t_3)) (fun w hS => r_not h rfl) fun a h=>h_done (by kernel_rfl) ?_
  replace h : Fr 24 a [(0, _), (1, _), (4, _), (5, _), (23, .bool (!t_3))] := h.keep [0, 1, 4, 5, 23]
  refine x_then_n (hKJ_4 _ _ ?_)
  obtain ⟨hc_4, H⟩ | ⟨hc_4, H⟩ := ii H
  ·refine c_cond_f h rfl (nf hc_4) <| wp_skip <| x_block_n <| x_then_n (hKJ_3 _ _ ?_)
   refine wp_region_lit <| mv h rfl fun a h=>s_arith (r := w64 (x_1 + 1)) h rfl rfl rfl (.inl ⟨rfl, rfl⟩) fun a h=>sg h rfl fun a h=>wpList_nil <| x_then_n (hKL_1 _ _ ?_)
   exact ⟨w64 (x_1 + 1), N_4, H, (h.to rfl), (hS.sel [0] (by decide)), (le_2.trans le_3)⟩
  ·refine c_cond_t h rfl (nt (ef hc_4)) <| qr <| sg h rfl fun a h=>nx <| wp_ret (x_block_r (x_then_r (x_then_r (x_block_r (x_then_r ?_)))))
   obtain rfl := Option.some.inj H
   exact r1 h 4 rfl rfl ⟨_, rfl, N_4, rfl, (hS.sel [0] (by decide))⟩
 ·refine c_cond_f h rfl (df hc_1) <| wp_exit (x_then_x (x_then_x (x_block_t ?_)))
  exact x_then_n (hJ_j_1  H _ _ ⟨N_2, (h.to rfl), (hS.sel [0] (by decide)), le_2⟩)

set_option maxHeartbeats 4000000 in
set_option maxRecDepth 20000 in
theorem mach_rising_hocket_api_Last_97.calls (K : Nat) (x0 : List api_Last) (p0_0 : Value) (r : Bool) (w0 w : World) (Z A : Mem) (hA : A.le Z) (hS : Sep w0 w [] Z) (hp0_0 : Rd k_api_Last A p0_0 x0)
    (H : mach_rising_hocket_api_Last_97.f K x0 = some r) :
    Calls Try.prog 96 [p0_0, .func (.func 97) #[] [].toArray].toArray w (Ret fun v w' => ∃ (N : Mem), v = .bool r ∧ Sep w0 w' [N] Z) := by
 unfold mach_rising_hocket_api_Last_97.f at H
 refine f_enter _ Try.func96 rfl Try.ntmps96 rfl fun a h=>?_
 replace h : Fr 24 a [(0, p0_0), (1, .func (.func 97) #[] [].toArray)] := h
 replace hS := hS.start
 refine qr <| sg h rfl fun a h=>nx <| c_seq fun KJ_1 hKJ_1 => qr <| sg h rfl fun a h=>wpList_nil <| x_then_n ?_
 have hJ_j_1 : mach_rising_hocket_api_Last_97.J1 K = some r → ∀ (a : Act) (w_1 : World), (∃ (N_1 : Mem), Fr 24 a [(4, .bool false)] ∧ Sep w0 w_1 [N_1] Z ∧ Mem.no.le N_1) → KJ_1 a w_1 := by
  clear H h hS a
  rintro H a w_1 ⟨N_1, h, hS, le_1⟩
  unfold mach_rising_hocket_api_Last_97.J1 at H
  refine hKJ_1 _ _ <| qr <| sg h rfl fun a h=>nx <| wp_ret ?_
  obtain rfl := Option.some.inj H
  exact r1 h 4 rfl rfl ⟨_, rfl, N_1, rfl, (hS.sel [0] (by decide))⟩
 clear hKJ_1
 refine c_block <| c_loop (fun k_1 a w_2 => ∃ (x_1 : Int) (N_2 : Mem), mach_rising_hocket_api_Last_97.L1 K x0 (fun v => mach_rising_hocket_api_Last_97.J1 K) k_1 x_1 = some r ∧ Fr 24 a [(0, p0_0), (1, .func (.func 97) #[] [].toArray), (4, .bool false), (5, iV x_1)] ∧ Sep w0 w_2 [N_2] Z ∧ Mem.no.le N_2) K ⟨1, Mem.no, H, (h.to rfl), (hS.sel [0] (by decide)), mr⟩ (fun a w h => by obtain ⟨_, _, H, _⟩ := h; cases (show (none : Option (Bool)) = some r from H)) ?_
 clear h hS a H
 rintro k_1 a w_2 KL_1 hKL_1 ⟨x_1, N_2, H, h, hS, le_2⟩
 replace H : mach_rising_hocket_api_Last_97.B1 K x0 (fun v => mach_rising_hocket_api_Last_97.J1 K) (mach_rising_hocket_api_Last_97.L1 K x0 (fun v => mach_rising_hocket_api_Last_97.J1 K) k_1) x_1 = some r := H
 unfold mach_rising_hocket_api_Last_97.B1 at H
 refine c_seq fun KJ_2 hKJ_2 => qr <| mv h rfl fun a h=>mv h rfl fun a h=>s_len h rfl U33 rfl hp0_0 fun a h=>s_cmp (b := decide (x_1 < (x0.length : Int))) h rfl rfl rfl (.inr (.inr (.inl ⟨rfl, rfl⟩))) fun a h=>wpList_nil <| x_then_n ?_
 obtain ⟨hc_1, H⟩ | ⟨hc_1, H⟩ := ii H
 ·refine c_cond_t h rfl (dt hc_1) <| wp_skip <| x_then_n (hKJ_2 _ _ ?_)
  refine c_seq fun KJ_3 hKJ_3 => c_block <| c_seq fun KJ_4 hKJ_4 => h_begin (S := fun w => Sep w0 w [N_2] Z) 12 (by kernel_rfl) rfl (bA 12 0) (by kernel_rfl) hS fun w_3 hS => ?_
  refine t_take 0 (bA 12 1) rfl rfl rfl rfl h (hS.sub .ii) (v := .func (.func 97) #[] [].toArray) (fun w hS => r_move h rfl) fun a h=>t_take 1 (bA 12 3) rfl rfl rfl rfl h (hS.sub .ii) (v := p0_0) (fun w hS => r_move h rfl) fun a h=>t_take 2 (bA 12 7) rfl rfl rfl rfl h (hS.sub .ii) (v := iV x_1) (fun w hS => r_move h rfl) fun a h=>?_
  obtain ⟨t_1, et_1, H⟩ := bs H
  refine t_takeE 3 (bA 12 15) rfl rfl rfl rfl h (hS.sub .ii) (f := fun ad => .pointer (some ad)) (r_index h U33 ti93 rfl rfl rfl hp0_0 et_1) ?_
  rintro ad_1 ⟨cs_1, hk_1, hc_2⟩
  obtain ⟨v_1, rfl, hr_1⟩ := k_api_Last.open' hk_1
  intro a h
  refine t_take 4 (bA 12 31) rfl rfl rfl rfl h (hS.sub .ii) (v := .agg (E93 t_1 v_1).toArray) (fun w hS => r_load h rfl (el_agg (o := 0) (us := (E93 t_1 v_1)) (fun j c h => Mem.cell_le (hA.trans hS.old) (hc_2 j c h)) U93 rfl ti93 rfl rfl)) fun a h=>t_take 5 (bA 12 63) rfl rfl rfl rfl h (hS.sub .ii) (v := p0_0) (fun w hS => r_move h rfl) fun a h=>t_take 6 (bA 12 127) rfl rfl rfl rfl h (hS.sub .ii) (v := iV x_1) (fun w hS => r_move h rfl) fun a h=>t_take 7 (bA 12 255) rfl rfl rfl rfl h (hS.sub .ii) (v := iV (w64 (x_1 - 1))) (fun w hS => r_arith (r := w64 (x_1 - 1)) h rfl rfl (.inr (.inl ⟨rfl, rfl⟩))) fun a h=>?_
  obtain ⟨t_2, et_2, H⟩ := bs H
  refine t_takeE 8 (bA 12 511) rfl rfl rfl rfl h (hS.sub .ii) (f := fun ad => .pointer (some ad)) (r_index h U33 ti93 rfl rfl rfl hp0_0 et_2) ?_
  rintro ad_2 ⟨cs_2, hk_2, hc_3⟩
  obtain ⟨v_2, rfl, hr_2⟩ := k_api_Last.open' hk_2
  intro a h
  refine t_take 9 (bA 12 1023) rfl rfl rfl rfl h (hS.sub .ii) (v := .agg (E93 t_2 v_2).toArray) (fun w hS => r_load h rfl (el_agg (o := 0) (us := (E93 t_2 v_2)) (fun j c h => Mem.cell_le (hA.trans hS.old) (hc_3 j c h)) U93 rfl ti93 rfl rfl)) fun a h=>h_event 10 (bA 12 2047) rfl (by kernel_rfl) (by kernel_rfl) ?_
  obtain ⟨t_3, et_3, H⟩ := bs H
  refine s_callv h rfl rfl Try.call97 rfl (mach_right_2.calls t_1 _ t_2 _ t_3 w0 _ _ _ mr (hS.enter [] (by decide)) (hr_1.mono (hA.trans (hS.le_zed []))) (hr_2.mono (hA.trans (hS.le_zed []))) et_3) ?_
  rintro _ w_4 ⟨N_3, rfl, hS'⟩
  intro a h
  obtain ⟨N_4, hS'', le_3, ln_1⟩ := hS.call [] (by decide) rfl (l' := []) (ow := []) rfl hS'
  replace hS : Sep w0 w_4 [N_4] Z := hS''
  refine ne (hS.sub (.cons le_3 .ii)) fun hs => ?_
  refine t_take 11 (bA 12 4095) rfl rfl rfl rfl h hs (v := .bool (!t_3)) (fun w hS => r_not h rfl) fun a h=>h_done (by kernel_rfl) ?_
  replace h : Fr 24 a [(0, _), (1, _), (4, _), (5, _), (23, .bool (!t_3))] := h.keep [0, 1, 4, 5, 23]
  refine x_then_n (hKJ_4 _ _ ?_)
  obtain ⟨hc_4, H⟩ | ⟨hc_4, H⟩ := ii H
  ·refine c_cond_f h rfl (nf hc_4) <| wp_skip <| x_block_n <| x_then_n (hKJ_3 _ _ ?_)
   refine wp_region_lit <| mv h rfl fun a h=>s_arith (r := w64 (x_1 + 1)) h rfl rfl rfl (.inl ⟨rfl, rfl⟩) fun a h=>sg h rfl fun a h=>wpList_nil <| x_then_n (hKL_1 _ _ ?_)
   exact ⟨w64 (x_1 + 1), N_4, H, (h.to rfl), (hS.sel [0] (by decide)), (le_2.trans le_3)⟩
  ·refine c_cond_t h rfl (nt (ef hc_4)) <| qr <| sg h rfl fun a h=>nx <| wp_ret (x_block_r (x_then_r (x_then_r (x_block_r (x_then_r ?_)))))
   obtain rfl := Option.some.inj H
   exact r1 h 4 rfl rfl ⟨_, rfl, N_4, rfl, (hS.sel [0] (by decide))⟩
 ·refine c_cond_f h rfl (df hc_1) <| wp_exit (x_then_x (x_then_x (x_block_t ?_)))
  exact x_then_n (hJ_j_1  H _ _ ⟨N_2, (h.to rfl), (hS.sel [0] (by decide)), le_2⟩)

set_option maxHeartbeats 4000000 in
set_option maxRecDepth 20000 in
theorem mach_right.calls (K : Nat) (x0 : api_Machine) (p0_0 : Value) (p0_1 : Value) (p0_2 : Value) (p0_3 : Value) (p0_4 : Value) (r : Bool) (w0 w : World) (Z A : Mem) (hA : A.le Z) (hS : Sep w0 w [] Z) (hp0_0 : Rd Kd.u8 A p0_0 x0.Objects.Reg) (hp0_1 : Rd (Kd.slice Kd.u8) A p0_1 x0.Objects.Queue) (hp0_2 : Rd (Kd.int .i64) A p0_2 x0.Objects.Lock) (hp0_3 : Rd k_api_Pair A p0_3 x0.Objects.Map) (hp0_4 : Rd k_api_Last A p0_4 x0.Table)
    (H : mach_right.f K x0 = some r) :
    Calls Try.prog 77 [.agg ([p0_0, p0_1, p0_2, p0_3, p0_4] : List Value).toArray].toArray w (Ret fun v w' => ∃ (N : Mem), v = .bool r ∧ Sep w0 w' [N] Z) := by
 unfold mach_right.f at H
 refine f_enter _ Try.func77 rfl Try.ntmps77 rfl fun a h=>?_
 replace h : Fr 51 a [(0, .agg ([p0_0, p0_1, p0_2, p0_3, p0_4] : List Value).toArray)] := h
 replace hS := hS.start
 refine qr <| v_box (vs := [p0_0, p0_1, p0_2, p0_3, p0_4]) h rfl rfl rfl hS fun w_1 g_1 hS' a h => ?_
 replace hS : Sep w0 w_1 [_, bx g_1 35 [p0_0, p0_1, p0_2, p0_3, p0_4]] Z := hS'
 refine sg h rfl fun a h=>nx <| c_seq fun KJ_1 hKJ_1 => qr <| s_fieldAddr h rfl U35 rfl ti32 rfl rfl fun a h=>s_fieldAddr h rfl U32 rfl ti29 rfl rfl fun a h=>s_load h rfl rfl (hS.load_one (p := 1) rfl U29 rfl rfl) fun a h=>s_len h rfl U29 rfl hp0_2 fun a h=>mv h rfl fun a h=>wpList_nil <| x_then_n ?_
 have hJ_j_1 : mach_right.J1 K x0 = some r → ∀ (a : Act) (w_2 : World), (∃ (N_1 : Mem), Fr 51 a [(1, .pointer (some ⟨g_1, 0, none⟩)), (2, .bool false)] ∧ Sep w0 w_2 [N_1, bx g_1 35 [p0_0, p0_1, p0_2, p0_3, p0_4]] Z ∧ Mem.no.le N_1) → KJ_1 a w_2 := by
  clear H h hS a
  rintro H a w_2 ⟨N_1, h, hS, le_1⟩
  unfold mach_right.J1 at H
  refine hKJ_1 _ _ <| c_seq fun KJ_2 hKJ_2 => qr <| s_fieldAddr h rfl U35 rfl ti33 rfl rfl fun a h=>s_load h rfl rfl (hS.load_one (p := 1) rfl U33 rfl rfl) fun a h=>s_len h rfl U33 rfl hp0_4 fun a h=>mv h rfl fun a h=>wpList_nil <| x_then_n ?_
  have hJ_j_2 : mach_right.J2 K x0 = some r → ∀ (a : Act) (w_3 : World), (∃ (N_2 : Mem), Fr 51 a [(1, .pointer (some ⟨g_1, 0, none⟩)), (2, .bool false)] ∧ Sep w0 w_3 [N_2, bx g_1 35 [p0_0, p0_1, p0_2, p0_3, p0_4]] Z ∧ N_1.le N_2) → KJ_2 a w_3 := by
   clear H h hS a
   rintro H a w_3 ⟨N_2, h, hS, le_2⟩
   unfold mach_right.J2 at H
   refine hKJ_2 _ _ <| qr <| s_fieldAddr h rfl U35 rfl ti32 rfl rfl fun a h=>s_fieldAddr h rfl U32 rfl ti30 rfl rfl fun a h=>s_load h rfl rfl (hS.load_one (p := 1) rfl U30 rfl rfl) fun a h=>?_
   obtain ⟨t_1, et_1, H⟩ := bs H
   refine s_call h rfl Try.call93 rfl (mach_rising_hocket_api_Pair_94.calls K x0.Objects.Map _ t_1 w0 _ _ _ mr (hS.enter [] (by decide)) (hp0_3.mono (hA.trans (hS.le_zed []))) et_1) ?_
   rintro _ w_4 ⟨N_3, rfl, hS'⟩
   intro a h
   obtain ⟨N_4, hS'', le_3, ln_1⟩ := hS.call [] (by decide) rfl (l' := []) (ow := []) rfl hS'
   replace hS : Sep w0 w_4 [N_4, _] Z := hS''
   refine sg h rfl fun a h=>wpList_nil ?_
   replace h : Fr 51 a [(1, _), (2, _), (7, .bool t_1)] := h.keep [1, 2, 7]
   refine x_then_n <| c_seq fun KJ_3 hKJ_3 => wp_region_lit <| mv h rfl fun a h=>mv h rfl fun a h=>?_
   obtain ⟨hc_1, H⟩ | ⟨hc_1, H⟩ := ii H
   ·refine s_on h rfl rfl hc_1 <| s_fieldAddr h rfl U35 rfl ti33 rfl rfl fun a h=>s_on h rfl rfl hc_1 <| s_load h rfl rfl (hS.load_one (p := 1) rfl U33 rfl rfl) fun a h=>s_on h rfl rfl hc_1 ?_
    obtain ⟨t_2, et_2, H⟩ := bs H
    refine s_call h rfl Try.call96 rfl (mach_rising_hocket_api_Last_97.calls K x0.Table _ t_2 w0 _ _ _ mr (hS.enter [] (by decide)) (hp0_4.mono (hA.trans (hS.le_zed []))) et_2) ?_
    rintro _ w_5 ⟨N_5, rfl, hS'⟩
    intro a h
    obtain ⟨N_6, hS'', le_4, ln_2⟩ := hS.call [] (by decide) rfl (l' := []) (ow := []) rfl hS'
    replace hS : Sep w0 w_5 [N_6, _] Z := hS''
    refine pt h rfl hc_1 fun a h=>sg h rfl fun a h=>wpList_nil <| x_then_n (hKJ_3 _ _ ?_)
    refine wp_ret ?_
    obtain rfl := Option.some.inj H
    exact r1 h 2 rfl rfl ⟨_, rfl, N_6, rfl, (hS.sel [0] (by decide))⟩
   ·refine of h rfl rfl (ef hc_1) fun a h=>of h rfl rfl (ef hc_1) fun a h=>of h rfl rfl (ef hc_1) fun a h=>pf h rfl (ef hc_1) fun a h=>sg h rfl fun a h=>wpList_nil <| x_then_n (hKJ_3 _ _ ?_)
    refine wp_ret ?_
    obtain rfl := Option.some.inj H
    exact r1 h 2 rfl rfl ⟨_, rfl, N_4, rfl, (hS.sel [0] (by decide))⟩
  clear hKJ_2
  refine c_block <| c_loop (fun k_1 a w_6 => ∃ (x_1 : Int) (N_7 : Mem), mach_right.L1 K x0 (fun v => mach_right.J2 K x0) k_1 x_1 = some r ∧ Fr 51 a [(1, .pointer (some ⟨g_1, 0, none⟩)), (2, .bool false), (26, p0_4), (27, iV (x0.Table.length : Int)), (28, iV x_1)] ∧ Sep w0 w_6 [N_7, bx g_1 35 [p0_0, p0_1, p0_2, p0_3, p0_4]] Z ∧ N_1.le N_7) K ⟨0, N_1, H, (h.to rfl), (hS.sel [0, 1] (by decide)), mr⟩ (fun a w h => by obtain ⟨_, _, H, _⟩ := h; cases (show (none : Option (Bool)) = some r from H)) ?_
  clear h hS a H
  rintro k_1 a w_6 KL_1 hKL_1 ⟨x_1, N_7, H, h, hS, le_5⟩
  replace H : mach_right.B1 K x0 (fun v => mach_right.J2 K x0) (mach_right.L1 K x0 (fun v => mach_right.J2 K x0) k_1) x_1 = some r := H
  unfold mach_right.B1 at H
  refine qr <| s_cmp (b := decide (x_1 < (x0.Table.length : Int))) h rfl rfl rfl (.inr (.inr (.inl ⟨rfl, rfl⟩))) fun a h=>wpList_nil ?_
  replace h : Fr 51 a [(1, _), (2, _), (26, _), (27, _), (28, _), (29, .bool (decide (x_1 < (x0.Table.length : Int))))] := h.keep [1, 2, 26, 27, 28, 29]
  refine x_then_n <| c_seq fun KJ_4 hKJ_4 => ?_
  obtain ⟨hc_2, H⟩ | ⟨hc_2, H⟩ := ii H
  ·refine c_cond_t h rfl (dt hc_2) <| wp_skip <| x_then_n (hKJ_4 _ _ ?_)
   refine c_seq fun KJ_5 hKJ_5 => c_block <| wp_seq <| wp_region_lit ?_
   obtain ⟨t_3, et_3, H⟩ := bs H
   refine v_index h rfl U33 ti93 rfl rfl rfl hp0_4 (hA.trans hS.old) et_3 fun ad_1 cs_1 hk_1 hc_3 => ?_
   obtain ⟨v_1, rfl, hr_1⟩ := k_api_Last.open' hk_1
   intro a h
   refine s_load h rfl rfl (el_agg (o := 0) (us := (E93 t_3 v_1)) hc_3 U93 rfl ti93 rfl rfl) fun a h=>v_alloc h rfl ti93 hS fun w_7 g_2 hS' a h => ?_
   replace hS : Sep w0 w_7 [_, _, bx g_2 93 [iV 0, iV 0, iV 0, nS, iV 0]] Z := hS'
   refine sto 2 h rfl rfl hS rfl ti93 rfl rfl rfl (oa 3 rfl (oc hr_1.one (oz rfl))) fun w_8 hS' => ?_
   replace hS : Sep w0 w_8 [_, _, bx g_2 93 (E93 t_3 v_1)] Z := hS'
   refine nx <| c_seq fun KJ_6 hKJ_6 => wp_region_lit <| s_fieldAddr h rfl U93 rfl ti3 rfl rfl fun a h=>s_load h rfl rfl (hS.load_one (p := 2) rfl U3 rfl rfl) fun a h=>s_cmp (b := decide (t_3.Sess < 1)) h rfl rfl rfl (.inr (.inr (.inl ⟨rfl, rfl⟩))) fun a h=>mv h rfl fun a h=>?_
   obtain ⟨hc_4, H⟩ | ⟨hc_4, H⟩ := ii H
   ·refine of h rfl rfl (dt hc_4) fun a h=>of h rfl rfl (dt hc_4) fun a h=>of h rfl rfl (dt hc_4) fun a h=>pt h rfl (dt hc_4) fun a h=>wpList_nil <| x_then_n (hKJ_6 _ _ ?_)
    refine c_cond_t h rfl rfl <| qr <| sg h rfl fun a h=>nx <| wp_ret (x_block_r (x_then_r (x_then_r (x_block_r (x_then_r ?_)))))
    obtain rfl := Option.some.inj H
    exact r1 h 2 rfl rfl ⟨_, rfl, N_7, rfl, (hS.sel [0] (by decide))⟩
   ·refine s_on h rfl rfl (df hc_4) <| s_fieldAddr h rfl U93 rfl ti3 rfl rfl fun a h=>s_on h rfl rfl (df hc_4) <| s_load h rfl rfl (hS.load_one (p := 2) rfl U3 rfl rfl) fun a h=>s_on h rfl rfl (df hc_4) <| s_cmp (b := decide (t_3.Seq < 1)) h rfl rfl rfl (.inr (.inr (.inl ⟨rfl, rfl⟩))) fun a h=>pf h rfl (df hc_4) fun a h=>wpList_nil <| x_then_n (hKJ_6 _ _ ?_)
    obtain ⟨hc_5, H⟩ | ⟨hc_5, H⟩ := ii H
    ·refine c_cond_t h rfl (dt hc_5) <| qr <| sg h rfl fun a h=>nx <| wp_ret (x_block_r (x_then_r (x_then_r (x_block_r (x_then_r ?_)))))
     obtain rfl := Option.some.inj H
     exact r1 h 2 rfl rfl ⟨_, rfl, N_7, rfl, (hS.sel [0] (by decide))⟩
    ·refine c_cond_f h rfl (df hc_5) <| wp_skip <| x_block_n <| x_then_n (hKJ_5 _ _ ?_)
     refine wp_region_lit <| s_arith (r := w64 (x_1 + 1)) h rfl rfl rfl (.inl ⟨rfl, rfl⟩) fun a h=>mv h rfl fun a h=>wpList_nil <| x_then_n (hKL_1 _ _ ?_)
     exact ⟨w64 (x_1 + 1), N_7, H, (h.to rfl), (hS.sel [0, 1] (by decide)), le_5⟩
  ·refine c_cond_f h rfl (df hc_2) <| wp_exit (x_then_x (x_then_x (x_block_t ?_)))
   exact x_then_n (hJ_j_2  H _ _ ⟨N_7, (h.to rfl), (hS.sel [0, 1] (by decide)), le_5⟩)
 clear hKJ_1
 refine c_block <| c_loop (fun k_2 a w_9 => ∃ (x_2 : Int) (N_8 : Mem), mach_right.L2 K x0 (fun v => mach_right.J1 K x0) k_2 x_2 = some r ∧ Fr 51 a [(1, .pointer (some ⟨g_1, 0, none⟩)), (2, .bool false), (10, p0_2), (11, iV (x0.Objects.Lock.length : Int)), (12, iV x_2)] ∧ Sep w0 w_9 [N_8, bx g_1 35 [p0_0, p0_1, p0_2, p0_3, p0_4]] Z ∧ Mem.no.le N_8) K ⟨0, Mem.no, H, (h.to rfl), (hS.sel [0, 1] (by decide)), mr⟩ (fun a w h => by obtain ⟨_, _, H, _⟩ := h; cases (show (none : Option (Bool)) = some r from H)) ?_
 clear h hS a H
 rintro k_2 a w_9 KL_2 hKL_2 ⟨x_2, N_8, H, h, hS, le_6⟩
 replace H : mach_right.B2 K x0 (fun v => mach_right.J1 K x0) (mach_right.L2 K x0 (fun v => mach_right.J1 K x0) k_2) x_2 = some r := H
 unfold mach_right.B2 at H
 refine qr <| s_cmp (b := decide (x_2 < (x0.Objects.Lock.length : Int))) h rfl rfl rfl (.inr (.inr (.inl ⟨rfl, rfl⟩))) fun a h=>nx <| c_seq fun KJ_7 hKJ_7 => ?_
 obtain ⟨hc_6, H⟩ | ⟨hc_6, H⟩ := ii H
 ·refine c_cond_t h rfl (dt hc_6) <| wp_skip <| x_then_n (hKJ_7 _ _ ?_)
  refine c_seq fun KJ_8 hKJ_8 => c_block <| qr <| mv h rfl fun a h=>?_
  obtain ⟨t_4, et_4, H⟩ := bs H
  refine v_index h rfl U29 ti3 rfl rfl rfl hp0_2 (hA.trans hS.old) et_4 fun ad_2 cs_2 hk_2 hc_7 => ?_
  obtain rfl := (show cs_2 = [iV t_4] from hk_2)
  intro a h
  refine s_load h rfl rfl (el_one (o := 0) hc_7 U3 rfl rfl) fun a h=>sg h rfl fun a h=>sg h rfl fun a h=>wpList_nil ?_
  replace h : Fr 51 a [(1, _), (2, _), (3, iV x_2), (4, iV t_4), (10, _), (11, _), (12, _)] := h.keep [1, 2, 3, 4, 10, 11, 12]
  refine x_then_n <| qr <| s_fieldAddr h rfl U35 rfl ti32 rfl rfl fun a h=>s_fieldAddr h rfl U32 rfl ti29 rfl rfl fun a h=>s_load h rfl rfl (hS.load_one (p := 1) rfl U29 rfl rfl) fun a h=>mv h rfl fun a h=>?_
  obtain ⟨t_5, et_5, H⟩ := bs H
  refine s_slice h rfl U29 ti3 rfl rfl hp0_2 rfl rfl et_5 fun v_2 hr_2 a h => mv h rfl fun a h=>?_
  obtain ⟨t_6, et_6, H⟩ := bs H
  refine s_call h rfl Try.call92 rfl (slices_Contains_sint_int.calls K t_5 _ t_4 t_6 w0 _ _ _ mr (hS.enter [] (by decide)) (hr_2.mono (hA.trans (hS.le_zed []))) et_6) ?_
  rintro _ w_10 ⟨N_9, rfl, hS'⟩
  intro a h
  obtain ⟨N_10, hS'', le_7, ln_3⟩ := hS.call [] (by decide) rfl (l' := []) (ow := []) rfl hS'
  replace hS : Sep w0 w_10 [N_10, _] Z := hS''
  refine wpList_nil <| x_then_n ?_
  obtain ⟨hc_8, H⟩ | ⟨hc_8, H⟩ := ii H
  ·refine c_cond_t h rfl hc_8 <| qr <| sg h rfl fun a h=>nx <| wp_ret (x_block_r (x_then_r (x_then_r (x_block_r (x_then_r ?_)))))
   obtain rfl := Option.some.inj H
   exact r1 h 2 rfl rfl ⟨_, rfl, N_10, rfl, (hS.sel [0] (by decide))⟩
  ·refine c_cond_f h rfl (ef hc_8) <| wp_skip <| x_block_n <| x_then_n (hKJ_8 _ _ ?_)
   refine wp_region_lit <| s_arith (r := w64 (x_2 + 1)) h rfl rfl rfl (.inl ⟨rfl, rfl⟩) fun a h=>mv h rfl fun a h=>wpList_nil <| x_then_n (hKL_2 _ _ ?_)
   exact ⟨w64 (x_2 + 1), N_10, H, (h.to rfl), (hS.sel [0, 1] (by decide)), (le_6.trans le_7)⟩
 ·refine c_cond_f h rfl (df hc_6) <| wp_exit (x_then_x (x_then_x (x_block_t ?_)))
  exact x_then_n (hJ_j_1  H _ _ ⟨N_8, (h.to rfl), (hS.sel [0, 1] (by decide)), le_6⟩)

set_option maxHeartbeats 4000000 in
set_option maxRecDepth 20000 in
theorem mach_Decode.calls (K : Nat) (x0 : List UInt8) (p0_0 : Value) (r : api_Machine × Bool) (w0 w : World) (Z A : Mem) (hA : A.le Z) (hS : Sep w0 w [] Z) (hp0_0 : Rd Kd.u8 A p0_0 x0)
    (H : mach_Decode.f K x0 = some r) :
    Calls Try.prog 56 [p0_0].toArray w (Ret fun v w' => ∃ (u0 : Value) (u1 : Value) (u2 : Value) (u3 : Value) (u4 : Value) (N : Mem) (M0 : Mem) (M1 : Mem) (M2 : Mem) (M3 : Mem) (M4 : Mem), v = .tuple [.agg [u0, u1, u2, u3, u4].toArray, .bool r.2].toArray ∧ Sep w0 w' [N, M0, M1, M2, M3, M4] Z ∧ Own Kd.u8 5 M0 Mem.no u0 r.1.Objects.Reg ∧ Own (Kd.slice Kd.u8) 22 M1 N u1 r.1.Objects.Queue ∧ Own (Kd.int .i64) 3 M2 Mem.no u2 r.1.Objects.Lock ∧ Own k_api_Pair 88 M3 N u3 r.1.Objects.Map ∧ Own k_api_Last 93 M4 N u4 r.1.Table) := by
 unfold mach_Decode.f at H
 refine f_enter _ Try.func56 rfl Try.ntmps56 rfl fun a h=>?_
 replace h : Fr 20 a [(0, p0_0)] := h
 replace hS := hS.start
 refine qr <| v_alloc h rfl ti35 hS fun w_1 g_1 hS' a h => ?_
 replace hS : Sep w0 w_1 [_, bx g_1 35 [nS, nS, nS, nS, nS]] Z := hS'
 refine sg h rfl fun a h=>nx <| qr <| mv h rfl fun a h=>?_
 obtain ⟨t_1, et_1, H⟩ := bs H
 refine s_call h rfl Try.call54 rfl (pack_Read.calls x0 _ t_1 w0 _ _ _ mr (hS.enter [] (by decide)) (hp0_0.mono (hA.trans (hS.le_zed []))) et_1) ?_
 rintro _ w_2 ⟨g_2, v_1, N_1, rfl, hS', hr_1⟩
 intro a h
 obtain ⟨N_2, hS'', le_1, ln_1⟩ := hS.call [] (by decide) rfl (l' := []) (ow := [_]) rfl hS'
 replace hS : Sep w0 w_2 [N_2, _, _] Z := hS''
 refine sg h rfl fun a h=>nx <| qr <| mv h rfl fun a h=>?_
 obtain ⟨t_2, et_2, H⟩ := bs H
 refine s_call h rfl Try.call76 rfl (mach_read.calls K _ t_1.1 _ t_1.2 t_2 w0 _ _ N_2 (hS.new_zed [1]) (hS.enter [1] (by decide)) (hr_1.mono ln_1) et_2) ?_
 rintro _ w_3 ⟨v_2, v_3, v_4, v_5, v_6, v_7, N_3, M_1, M_2, M_3, M_4, M_5, rfl, hS', hr_2, hr_3, hr_4, hr_5, hr_6, hr_7⟩
 intro a h
 obtain ⟨N_4, hS'', le_2, ln_2⟩ := hS.call [1] (by decide) rfl (l' := [_]) (ow := [_, _, _, _, _]) rfl hS'
 replace hS : Sep w0 w_3 [N_4, _, _, _, _, _, _, _] Z := hS''
 refine v_alloc h rfl ti35 hS fun w_4 g_3 hS' a h => ?_
 replace hS : Sep w0 w_4 [_, _, _, _, _, _, _, _, bx g_3 35 [nS, nS, nS, nS, nS]] Z := hS'
 refine sto 8 h rfl rfl hS rfl ti35 rfl rfl rfl (oc hr_2.one (oc (hr_3.mono ln_2).one (oc hr_4.one (oc (hr_5.mono ln_2).one (oc (hr_6.mono ln_2).one on0))))) fun w_5 hS' => ?_
 replace hS : Sep w0 w_5 [_, _, _, _, _, _, _, _, bx g_3 35 [v_2, v_3, v_4, v_5, v_6]] Z := hS'
 refine nx <| c_seq fun KJ_1 hKJ_1 => c_seq fun KJ_2 hKJ_2 => ?_
 have hJ_j_1 : ∀ (x_1 : Bool), mach_Decode.J1 K t_2 x_1 = some r → ∀ (a : Act) (w_6 : World), (∃ (N_5 : Mem), Fr 20 a [(2, .pointer (some ⟨g_1, 0, none⟩)), (3, .bool false), (5, .pointer (some ⟨g_3, 0, none⟩)), (17, .bool x_1)] ∧ Sep w0 w_6 [N_5, bx g_1 35 [nS, nS, nS, nS, nS], Mem.no, M_1, M_2, M_3, M_4, M_5, bx g_3 35 [v_2, v_3, v_4, v_5, v_6]] Z ∧ N_4.le N_5) → KJ_2 a w_6 := by
  clear H h hS a
  rintro x_1 H a w_6 ⟨N_5, h, hS, le_3⟩
  unfold mach_Decode.J1 at H
  refine hKJ_2 _ _ ?_
  obtain ⟨hc_1, H⟩ | ⟨hc_1, H⟩ := ii H
  ·refine c_cond_t h rfl hc_1 <| qr <| s_build h rfl ti35 pl35 rfl .nil (cs := [nS, nS, nS, nS, nS]) (by kernel_rfl) fun a h=>?_
   refine sto 1 h rfl rfl hS rfl ti35 rfl rfl rfl (oz rfl) fun w_7 hS' => ?_
   replace hS : Sep w0 w_7 [_, _, _, _, _, _, _, _, _] Z := hS'
   refine sg h rfl fun a h=>wpList_nil ?_
   replace h : Fr 20 a [(2, _), (3, _), (5, _)] := h.keep [2, 3, 5]
   refine x_then_n <| wp_ret (x_then_r ?_)
   have hS' := hS.room
   replace hS : Sep w0 w_7 [_, _, _, _, _, _, _, _, _, Mem.no] Z := hS'
   have hS' := hS.room
   replace hS : Sep w0 w_7 [_, _, _, _, _, _, _, _, _, _, Mem.no] Z := hS'
   have hS' := hS.room
   replace hS : Sep w0 w_7 [_, _, _, _, _, _, _, _, _, _, _, Mem.no] Z := hS'
   have hS' := hS.room
   replace hS : Sep w0 w_7 [_, _, _, _, _, _, _, _, _, _, _, _, Mem.no] Z := hS'
   have hS' := hS.room
   replace hS : Sep w0 w_7 [_, _, _, _, _, _, _, _, _, _, _, _, _, Mem.no] Z := hS'
   obtain rfl := Option.some.inj H
   exact f_ret h (rs := [.cell 2 35, .tmp 3]) rfl (.cell rfl (hS.load_agg (p := 1) (us := [nS, nS, nS, nS, nS]) rfl U35 rfl ti35 rfl rfl) (.tmp rfl .nil)) ⟨_, rfl, nS, nS, nS, nS, nS, N_5, Mem.no, Mem.no, Mem.no, Mem.no, Mem.no, rfl, (hS.sel [0, 9, 10, 11, 12, 13] (by decide)), (Own.nil Kd.u8 5 Mem.no), ((Own.nil (Kd.slice Kd.u8) 22 N_5).mono mr), (Own.nil (Kd.int .i64) 3 Mem.no), ((Own.nil k_api_Pair 88 N_5).mono mr), ((Own.nil k_api_Last 93 N_5).mono mr)⟩
  ·refine c_cond_f h rfl (ef hc_1) <| wp_skip <| x_then_n (hKJ_1 _ _ ?_)
   refine qr <| s_load h rfl rfl (hS.load_agg (p := 8) (us := [v_2, v_3, v_4, v_5, v_6]) rfl U35 rfl ti35 rfl rfl) fun a h=>?_
   refine sto 1 h rfl rfl hS rfl ti35 rfl rfl rfl (oc hr_2.one (oc (hr_3.mono ln_2).one (oc hr_4.one (oc (hr_5.mono ln_2).one (oc (hr_6.mono ln_2).one on0))))) fun w_8 hS' => ?_
   replace hS : Sep w0 w_8 [_, bx g_1 35 [v_2, v_3, v_4, v_5, v_6], _, _, _, _, _, _, _] Z := hS'
   refine sg h rfl fun a h=>wpList_nil ?_
   replace h : Fr 20 a [(2, _), (3, .bool true)] := h.keep [2, 3]
   refine x_then_n <| wp_ret ?_
   obtain rfl := Option.some.inj H
   exact f_ret h (rs := [.cell 2 35, .tmp 3]) rfl (.cell rfl (hS.load_agg (p := 1) (us := [v_2, v_3, v_4, v_5, v_6]) rfl U35 rfl ti35 rfl rfl) (.tmp rfl .nil)) ⟨_, rfl, v_2, v_3, v_4, v_5, v_6, N_5, M_1, M_2, M_3, M_4, M_5, rfl, (hS.sel [0, 3, 4, 5, 6, 7] (by decide)), hr_2, ((hr_3.mono ln_2).mono le_3), hr_4, ((hr_5.mono ln_2).mono le_3), ((hr_6.mono ln_2).mono le_3)⟩
 clear hKJ_2
 refine wp_region_lit <| mv h rfl fun a h=>?_
 obtain ⟨t_3, et_3, H⟩ := bs H
 refine s_call h rfl Try.call59 rfl (pack_Reader_End.calls _ t_2.2.1 _ t_2.2.2 t_3 w0 _ _ _ mr (hS.enter [1] (by decide)) ((hr_7.mono (Mem.un_le le_2 ln_2)).mono (mr.trans (hS.new_zed [1]))) et_3) ?_
 rintro _ w_9 ⟨N_6, rfl, hS'⟩
 intro a h
 obtain ⟨N_7, hS'', le_4, ln_3⟩ := hS.call [1] (by decide) rfl (l' := [_]) (ow := []) rfl hS'
 replace hS : Sep w0 w_9 [N_7, _, _, _, _, _, _, _, _] Z := hS''
 refine s_not h rfl rfl fun a h=>mv h rfl fun a h=>?_
 obtain ⟨hc_2, H⟩ | ⟨hc_2, H⟩ := ii H
 ·refine s_on h rfl rfl (nf hc_2) <| s_load h rfl rfl (hS.load_agg (p := 8) (us := [v_2, v_3, v_4, v_5, v_6]) rfl U35 rfl ti35 rfl rfl) fun a h=>s_on h rfl rfl (nf hc_2) ?_
  obtain ⟨t_4, et_4, H⟩ := bs H
  refine s_call h rfl Try.call77 rfl (mach_right.calls K t_2.1 _ _ _ _ _ t_4 w0 _ _ _ mr (hS.enter [] (by decide)) (hr_2.rd (hS.own_zed [] 2 (by decide)) (Mem.no_le _)) ((hr_3.mono ln_2).rd (hS.own_zed [] 3 (by decide)) (le_4.trans (hS.new_zed []))) (hr_4.rd (hS.own_zed [] 4 (by decide)) (Mem.no_le _)) ((hr_5.mono ln_2).rd (hS.own_zed [] 5 (by decide)) (le_4.trans (hS.new_zed []))) ((hr_6.mono ln_2).rd (hS.own_zed [] 6 (by decide)) (le_4.trans (hS.new_zed []))) et_4) ?_
  rintro _ w_10 ⟨N_8, rfl, hS'⟩
  intro a h
  obtain ⟨N_9, hS'', le_5, ln_4⟩ := hS.call [] (by decide) rfl (l' := []) (ow := []) rfl hS'
  replace hS : Sep w0 w_10 [N_9, _, _, _, _, _, _, _, _] Z := hS''
  refine s_on h rfl rfl (nf hc_2) <| s_not h rfl rfl fun a h=>pf h rfl (nf hc_2) fun a h=>wpList_nil ?_
  replace h : Fr 20 a [(2, .pointer (some ⟨g_1, 0, none⟩)), (3, .bool false), (5, .pointer (some ⟨g_3, 0, none⟩)), (17, .bool (!t_4))] := h.keep [2, 3, 5, 17]
  exact x_then_n (hJ_j_1 (!t_4) H _ _ ⟨N_9, (h.to rfl), (hS.sel [0, 1, 1001, 3, 4, 5, 6, 7, 8] (by decide)), (le_4.trans le_5)⟩)
 ·refine of h rfl rfl (nt (ef hc_2)) fun a h=>of h rfl rfl (nt (ef hc_2)) fun a h=>of h rfl rfl (nt (ef hc_2)) fun a h=>pt h rfl (nt (ef hc_2)) fun a h=>wpList_nil ?_
  replace h : Fr 20 a [(2, .pointer (some ⟨g_1, 0, none⟩)), (3, .bool false), (5, .pointer (some ⟨g_3, 0, none⟩)), (17, .bool true)] := h.keep [2, 3, 5, 17]
  exact x_then_n (hJ_j_1 true H _ _ ⟨N_7, (h.to rfl), (hS.sel [0, 1, 1001, 3, 4, 5, 6, 7, 8] (by decide)), le_4⟩)

set_option maxHeartbeats 4000000 in
set_option maxRecDepth 20000 in
theorem blob_read.calls (K : Nat) (x0 : List UInt8) (p0_0 : Value) (r : api_State × Bool) (w0 w : World) (Z A : Mem) (hA : A.le Z) (hS : Sep w0 w [] Z) (hp0_0 : Rd Kd.u8 A p0_0 x0)
    (H : blob_read.f K x0 = some r) :
    Calls Try.prog 27 [p0_0].toArray w (Ret fun v w' => ∃ (u0 : Value) (u1 : Value) (u2 : Value) (u3 : Value) (u4 : Value) (u5 : Value) (N : Mem) (M0 : Mem) (M1 : Mem) (M2 : Mem) (M3 : Mem) (M4 : Mem) (M5 : Mem), v = .tuple [.agg [iV r.1.At, u0, u1, u2, u3, u4, u5].toArray, .bool r.2].toArray ∧ Sep w0 w' [N, M0, M1, M2, M3, M4, M5] Z ∧ Own Kd.u8 5 M0 Mem.no u0 r.1.Machine.Objects.Reg ∧ Own (Kd.slice Kd.u8) 22 M1 N u1 r.1.Machine.Objects.Queue ∧ Own (Kd.int .i64) 3 M2 Mem.no u2 r.1.Machine.Objects.Lock ∧ Own k_api_Pair 88 M3 N u3 r.1.Machine.Objects.Map ∧ Own k_api_Last 93 M4 N u4 r.1.Machine.Table ∧ Own k_api_Entry 26 M5 N u5 r.1.Rest) := by
 unfold blob_read.f at H
 refine f_enter _ Try.func27 rfl Try.ntmps27 rfl fun a h=>?_
 replace h : Fr 47 a [(0, p0_0)] := h
 replace hS := hS.start
 refine qr <| v_alloc h rfl ti37 hS fun w_1 g_1 hS' a h => ?_
 replace hS : Sep w0 w_1 [_, bx g_1 37 [iV 0, nS, nS, nS, nS, nS, nS]] Z := hS'
 refine sg h rfl fun a h=>nx <| qr <| mv h rfl fun a h=>?_
 obtain ⟨t_1, et_1, H⟩ := bs H
 refine s_call h rfl Try.call54 rfl (pack_Read.calls x0 _ t_1 w0 _ _ _ mr (hS.enter [] (by decide)) (hp0_0.mono (hA.trans (hS.le_zed []))) et_1) ?_
 rintro _ w_2 ⟨g_2, v_1, N_1, rfl, hS', hr_1⟩
 intro a h
 obtain ⟨N_2, hS'', le_1, ln_1⟩ := hS.call [] (by decide) rfl (l' := []) (ow := [_]) rfl hS'
 replace hS : Sep w0 w_2 [N_2, _, _] Z := hS''
 refine sg h rfl fun a h=>nx <| qr <| mv h rfl fun a h=>?_
 obtain ⟨t_2, et_2, H⟩ := bs H
 refine s_call h rfl Try.call55 rfl (pack_Reader_Num.calls K _ t_1.1 _ t_1.2 549755813888 t_2 w0 _ _ N_2 (hS.new_zed [1]) (hS.enter [1] (by decide)) (hr_1.mono ln_1) et_2) ?_
 rintro _ w_3 ⟨v_2, N_3, rfl, hS', hr_2⟩
 intro a h
 obtain ⟨N_4, hS'', le_2, ln_2⟩ := hS.call [1] (by decide) rfl (l' := [_]) (ow := []) rfl hS'
 replace hS : Sep w0 w_3 [N_4, _, _] Z := hS''
 refine s_build h rfl ti37 pl37 rfl (.cons rfl .nil) (cs := [iV t_2.1, nS, nS, nS, nS, nS, nS]) (by kernel_rfl) fun a h=>v_alloc h rfl ti37 hS fun w_4 g_3 hS' a h => ?_
 replace hS : Sep w0 w_4 [_, _, _, bx g_3 37 [iV 0, nS, nS, nS, nS, nS, nS]] Z := hS'
 refine sto 3 h rfl rfl hS rfl ti37 rfl rfl rfl (oz rfl) fun w_5 hS' => ?_
 replace hS : Sep w0 w_5 [_, _, _, bx g_3 37 [iV t_2.1, _, _, _, _, _, _]] Z := hS'
 refine nx <| qr <| mv h rfl fun a h=>?_
 obtain ⟨t_3, et_3, H⟩ := bs H
 refine s_call h rfl Try.call57 rfl (pack_Reader_Bytes.calls K _ t_2.2.1 _ t_2.2.2 1048576 t_3 w0 _ _ N_4 (hS.new_zed [1]) (hS.enter [1] (by decide)) (hr_2.mono (Mem.un_le le_2 ln_2)) et_3) ?_
 rintro v_3 w_6 ⟨_, v_4, N_5, M_1, rfl, hS', hr_3, hr_4⟩
 intro a h
 obtain ⟨N_6, hS'', le_3, ln_3⟩ := hS.call [1] (by decide) rfl (l' := [_]) (ow := [_]) rfl hS'
 replace hS : Sep w0 w_6 [N_6, _, _, _, _] Z := hS''
 obtain ⟨t_4, et_4, H⟩ := bs H
 refine s_call h rfl Try.call56 rfl (mach_Decode.calls K t_3.1 _ t_4 w0 _ _ _ mr (hS.enter [] (by decide)) (hr_3.rd (hS.own_zed [] 3 (by decide)) (Mem.no_le _)) et_4) ?_
 rintro _ w_7 ⟨v_5, v_6, v_7, v_8, v_9, N_7, M_2, M_3, M_4, M_5, M_6, rfl, hS', hr_5, hr_6, hr_7, hr_8, hr_9⟩
 intro a h
 obtain ⟨N_8, hS'', le_4, ln_4⟩ := hS.call [] (by decide) rfl (l' := []) (ow := [_, _, _, _, _]) rfl hS'
 replace hS : Sep w0 w_7 [N_8, _, _, _, _, _, _, _, _, _] Z := hS''
 refine mv h rfl fun a h=>s_extract h rfl rfl rfl fun a h=>s_extract h rfl rfl rfl fun a h=>v_alloc h rfl ti35 hS fun w_8 g_4 hS' a h => ?_
 replace hS : Sep w0 w_8 [_, _, _, _, _, _, _, _, _, _, bx g_4 35 [nS, nS, nS, nS, nS]] Z := hS'
 refine sto 10 h rfl rfl hS rfl ti35 rfl rfl rfl (oc hr_5.one (oc (hr_6.mono ln_4).one (oc hr_7.one (oc (hr_8.mono ln_4).one (oc (hr_9.mono ln_4).one on0))))) fun w_9 hS' => ?_
 replace hS : Sep w0 w_9 [_, _, _, _, _, _, _, _, _, _, bx g_4 35 [v_5, v_6, v_7, v_8, v_9]] Z := hS'
 refine sg h rfl fun a h=>wpList_nil ?_
 replace h : Fr 47 a [(2, .pointer (some ⟨g_1, 0, none⟩)), (3, .bool false), (4, .pointer (some ⟨g_2, 0, none⟩)), (5, .pointer (some ⟨g_3, 0, none⟩)), (6, .pointer (some ⟨g_4, 0, none⟩)), (7, .bool t_4.2)] := h.keep [2, 3, 4, 5, 6, 7]
 refine x_then_n <| qr <| s_load h rfl rfl (hS.load_agg (p := 10) (us := [v_5, v_6, v_7, v_8, v_9]) rfl U35 rfl ti35 rfl rfl) fun a h=>s_fieldAddr h rfl U37 rfl ti35 rfl rfl fun a h=>?_
 refine sto 3 h rfl rfl hS rfl ti35 rfl rfl rfl (oc hr_5.one (oc (hr_6.mono ln_4).one (oc hr_7.one (oc (hr_8.mono ln_4).one (oc (hr_9.mono ln_4).one on0))))) fun w_10 hS' => ?_
 replace hS : Sep w0 w_10 [_, _, _, bx g_3 37 [_, v_5, v_6, v_7, v_8, v_9, _], _, _, _, _, _, _, _] Z := hS'
 refine nx <| c_seq fun KJ_1 hKJ_1 => qr <| mv h rfl fun a h=>?_
 obtain ⟨t_5, et_5, H⟩ := bs H
 refine s_call h rfl Try.call55 rfl (pack_Reader_Num.calls K _ t_3.2.1 _ t_3.2.2 64 t_5 w0 _ _ N_8 (hS.new_zed [1]) (hS.enter [1] (by decide)) ((hr_4.mono (Mem.un_le le_3 ln_3)).mono le_4) et_5) ?_
 rintro _ w_11 ⟨v_10, N_9, rfl, hS', hr_10⟩
 intro a h
 obtain ⟨N_10, hS'', le_5, ln_5⟩ := hS.call [1] (by decide) rfl (l' := [_]) (ow := []) rfl hS'
 replace hS : Sep w0 w_11 [N_10, _, _, _, _, _, _, _, _, _, _] Z := hS''
 refine mv h rfl fun a h=>wpList_nil <| x_then_n ?_
 have hJ_j_1 : ∀ (x_1 : pack_Reader), ∀ (x_2 : List api_Entry), blob_read.J1 K t_2 t_4 x_1 x_2 = some r → ∀ (a : Act) (w_12 : World), (∃ (v_11 : Value) (v_12 : Value) (N_11 : Mem) (M_7 : Mem), Fr 47 a [(2, .pointer (some ⟨g_1, 0, none⟩)), (3, .bool false), (4, .pointer (some ⟨g_2, 0, none⟩)), (5, .pointer (some ⟨g_3, 0, none⟩)), (7, .bool t_4.2)] ∧ Sep w0 w_12 [N_11, bx g_1 37 [iV 0, nS, nS, nS, nS, nS, nS], bx g_2 112 [v_11, .bool x_1.bad], bx g_3 37 [iV t_2.1, v_5, v_6, v_7, v_8, v_9, v_12], Mem.no, M_2, M_3, M_4, M_5, M_6, Mem.no, M_7] Z ∧ N_10.le N_11 ∧ Rd Kd.u8 N_11 v_11 x_1.b ∧ Own k_api_Entry 26 M_7 N_11 v_12 x_2) → KJ_1 a w_12 := by
  clear H h hS a
  rintro x_1 x_2 H a w_12 ⟨v_11, v_12, N_11, M_7, h, hS, le_6, hr_11, ho_1⟩
  unfold blob_read.J1 at H
  refine hKJ_1 _ _ <| c_seq fun KJ_2 hKJ_2 => qr <| s_fieldAddr h rfl U37 rfl ti3 rfl rfl fun a h=>s_load h rfl rfl (hS.load_one (p := 3) rfl U3 rfl rfl) fun a h=>s_fieldAddr h rfl U37 rfl ti27 rfl rfl fun a h=>s_load h rfl rfl (hS.load_one (p := 3) rfl U27 rfl rfl) fun a h=>s_lenO h rfl U27 rfl ho_1 fun a h=>s_arith (r := w64 (549755813888 - (x_2.length : Int))) h rfl rfl rfl (.inr (.inl ⟨rfl, rfl⟩)) fun a h=>s_cmp (b := decide (t_2.1 > (w64 (549755813888 - (x_2.length : Int))))) h rfl rfl rfl (.inr (.inr (.inr (.inr (.inl ⟨rfl, rfl⟩))))) fun a h=>wpList_nil <| x_then_n ?_
  obtain ⟨hc_1, H⟩ | ⟨hc_1, H⟩ := ii H
  ·refine c_cond_t h rfl (dt hc_1) <| qr <| s_build h rfl ti37 pl37 rfl .nil (cs := [iV 0, nS, nS, nS, nS, nS, nS]) (by kernel_rfl) fun a h=>?_
   refine sto 1 h rfl rfl hS rfl ti37 rfl rfl rfl (oz rfl) fun w_13 hS' => ?_
   replace hS : Sep w0 w_13 [_, _, _, _, _, _, _, _, _, _, _, _] Z := hS'
   refine sg h rfl fun a h=>wpList_nil ?_
   replace h : Fr 47 a [(2, _), (3, _), (4, _), (5, _), (7, _)] := h.keep [2, 3, 4, 5, 7]
   refine x_then_n <| wp_ret (x_then_r ?_)
   have hS' := hS.room
   replace hS : Sep w0 w_13 [_, _, _, _, _, _, _, _, _, _, _, _, Mem.no] Z := hS'
   have hS' := hS.room
   replace hS : Sep w0 w_13 [_, _, _, _, _, _, _, _, _, _, _, _, _, Mem.no] Z := hS'
   have hS' := hS.room
   replace hS : Sep w0 w_13 [_, _, _, _, _, _, _, _, _, _, _, _, _, _, Mem.no] Z := hS'
   have hS' := hS.room
   replace hS : Sep w0 w_13 [_, _, _, _, _, _, _, _, _, _, _, _, _, _, _, Mem.no] Z := hS'
   have hS' := hS.room
   replace hS : Sep w0 w_13 [_, _, _, _, _, _, _, _, _, _, _, _, _, _, _, _, Mem.no] Z := hS'
   have hS' := hS.room
   replace hS : Sep w0 w_13 [_, _, _, _, _, _, _, _, _, _, _, _, _, _, _, _, _, Mem.no] Z := hS'
   obtain rfl := Option.some.inj H
   exact f_ret h (rs := [.cell 2 37, .tmp 3]) rfl (.cell rfl (hS.load_agg (p := 1) (us := [iV 0, nS, nS, nS, nS, nS, nS]) rfl U37 rfl ti37 rfl rfl) (.tmp rfl .nil)) ⟨_, rfl, nS, nS, nS, nS, nS, nS, N_11, Mem.no, Mem.no, Mem.no, Mem.no, Mem.no, Mem.no, rfl, (hS.sel [0, 12, 13, 14, 15, 16, 17] (by decide)), (Own.nil Kd.u8 5 Mem.no), ((Own.nil (Kd.slice Kd.u8) 22 N_11).mono mr), (Own.nil (Kd.int .i64) 3 Mem.no), ((Own.nil k_api_Pair 88 N_11).mono mr), ((Own.nil k_api_Last 93 N_11).mono mr), ((Own.nil k_api_Entry 26 N_11).mono mr)⟩
  ·refine c_cond_f h rfl (df hc_1) <| wp_skip <| x_then_n (hKJ_2 _ _ ?_)
   refine c_seq fun KJ_3 hKJ_3 => h_begin (S := fun w => Sep w0 w [N_11, Mem.no, bx g_2 112 [v_11, .bool x_1.bad], bx g_3 37 [iV t_2.1, v_5, v_6, v_7, v_8, v_9, v_12], Mem.no, M_2, M_3, M_4, M_5, M_6, Mem.no, M_7] Z) 8 (by kernel_rfl) rfl (bA 8 0) (by kernel_rfl) hS fun w_14 hS => ?_
   refine t_take 0 (bA 8 1) rfl rfl rfl rfl h (hS.sub (.cons mr (.zz (.rr (.rr (.zz (.rr (.rr (.rr (.rr (.rr (.zz .ii)))))))))))) (v := .agg ([iV t_2.1, v_5, v_6, v_7, v_8, v_9, v_12] : List Value).toArray) (fun w hS => r_load h rfl (hS.load_agg (p := 3) (us := [iV t_2.1, v_5, v_6, v_7, v_8, v_9, v_12]) rfl U37 rfl ti37 rfl rfl)) fun a h=>t_take 1 (bA 8 3) rfl rfl rfl rfl h (hS.sub (.cons mr (.zz (.rr (.rr (.zz (.rr (.rr (.rr (.rr (.rr (.zz .ii)))))))))))) (v := .bool t_4.2) (fun w hS => r_move h rfl) fun a h=>t_take 2 (bA 8 7) rfl rfl rfl rfl h (hS.sub (.cons mr (.zz (.rr (.rr (.zz (.rr (.rr (.rr (.rr (.rr (.zz .ii)))))))))))) (v := .bool t_4.2) (fun w hS => r_move h rfl) fun a h=>?_
   obtain ⟨hc_2, H⟩ | ⟨hc_2, H⟩ := ii H
   ·refine t_take_on 3 (bA 8 15) rfl rfl rfl rfl hc_2 rfl rfl h (hS.sub (.cons mr (.zz (.rr (.rr (.zz (.rr (.rr (.rr (.rr (.rr (.zz .ii)))))))))))) (v := .pointer (some ⟨g_2, 0, none⟩)) (fun w hS => r_move h rfl) fun a h=>h_event 4 (bA 8 31) rfl (by kernel_rfl) (by kernel_rfl) <| s_on h rfl rfl hc_2 ?_
    obtain ⟨t_6, et_6, H⟩ := bs H
    refine s_call h rfl Try.call59 rfl (pack_Reader_End.calls _ x_1.b _ x_1.bad t_6 w0 _ _ _ mr (hS.enter [1] (by decide)) (hr_11.mono (mr.trans (hS.new_zed [1]))) et_6) ?_
    rintro _ w_15 ⟨N_12, rfl, hS'⟩
    intro a h
    obtain ⟨N_13, hS'', le_7, ln_6⟩ := hS.call [1] (by decide) rfl (l' := [_]) (ow := []) rfl hS'
    replace hS : Sep w0 w_15 [N_13, _, _, _, _, _, _, _, _, _, _, _] Z := hS''
    refine ne (hS.sub (.cons le_7 (.zz (.rr (.rr (.zz (.rr (.rr (.rr (.rr (.rr (.zz .ii)))))))))))) fun hs => ?_
    refine t_take 5 (bA 8 63) rfl rfl rfl rfl h hs (v := .bool t_6) (fun w hS => r_pick_t h rfl hc_2 rfl) fun a h=>h_event 6 (bA 8 127) rfl (by kernel_rfl) (by kernel_rfl) ?_
    refine sto 1 h rfl rfl hS rfl ti37 rfl rfl rfl (oa 1 rfl (oc hr_5.one (oc (hr_6.mono ln_4).one (oc hr_7.one (oc (hr_8.mono ln_4).one (oc (hr_9.mono ln_4).one (oc ho_1.one on0))))))) fun w_16 hS' => ?_
    replace hS : Sep w0 w_16 [_, bx g_1 37 [iV t_2.1, v_5, v_6, v_7, v_8, v_9, v_12], _, _, _, _, _, _, _, _, _, _] Z := hS'
    refine ne (hS.sub (.cons le_7 (.zz (.rr (.rr (.zz (.rr (.rr (.rr (.rr (.rr (.zz .ii)))))))))))) fun hs => ?_
    refine t_take 7 (bA 8 255) rfl rfl rfl rfl h hs (v := .bool t_6) (fun w hS => r_assign h rfl) fun a h=>h_done (by kernel_rfl) ?_
    replace h : Fr 47 a [(2, _), (3, .bool t_6)] := h.keep [2, 3]
    refine x_then_n (hKJ_3 _ _ ?_)
    refine wp_ret ?_
    obtain rfl := Option.some.inj H
    exact f_ret h (rs := [.cell 2 37, .tmp 3]) rfl (.cell rfl (hS.load_agg (p := 1) (us := [iV t_2.1, v_5, v_6, v_7, v_8, v_9, v_12]) rfl U37 rfl ti37 rfl rfl) (.tmp rfl .nil)) ⟨_, rfl, v_5, v_6, v_7, v_8, v_9, v_12, N_13, M_2, M_3, M_4, M_5, M_6, M_7, rfl, (hS.sel [0, 5, 6, 7, 8, 9, 11] (by decide)), hr_5, ((hr_6.mono ln_4).mono (le_5.trans (le_6.trans le_7))), hr_7, ((hr_8.mono ln_4).mono (le_5.trans (le_6.trans le_7))), ((hr_9.mono ln_4).mono (le_5.trans (le_6.trans le_7))), (ho_1.mono le_7)⟩
   ·refine t_take_off 3 (bA 8 15) rfl rfl rfl rfl (.inl (congrArg Value.bool (ef hc_2))) rfl rfl h (hS.sub (.cons mr (.zz (.rr (.rr (.zz (.rr (.rr (.rr (.rr (.rr (.zz .ii)))))))))))) fun a h=>t_take_off 4 (bA 8 31) rfl rfl rfl rfl (.inl (congrArg Value.bool (ef hc_2))) rfl rfl h (hS.sub (.cons mr (.zz (.rr (.rr (.zz (.rr (.rr (.rr (.rr (.rr (.zz .ii)))))))))))) fun a h=>t_take 5 (bA 8 63) rfl rfl rfl rfl h (hS.sub (.cons mr (.zz (.rr (.rr (.zz (.rr (.rr (.rr (.rr (.rr (.zz .ii)))))))))))) (v := .bool false) (fun w hS => r_pick_f h rfl (ef hc_2) rfl) fun a h=>h_event 6 (bA 8 127) rfl (by kernel_rfl) (by kernel_rfl) ?_
    refine sto 1 h rfl rfl hS rfl ti37 rfl rfl rfl (oa 1 rfl (oc hr_5.one (oc (hr_6.mono ln_4).one (oc hr_7.one (oc (hr_8.mono ln_4).one (oc (hr_9.mono ln_4).one (oc ho_1.one on0))))))) fun w_17 hS' => ?_
    replace hS : Sep w0 w_17 [_, bx g_1 37 [iV t_2.1, v_5, v_6, v_7, v_8, v_9, v_12], _, _, _, _, _, _, _, _, _, _] Z := hS'
    refine ne (hS.sub (.cons mr (.zz (.rr (.rr (.zz (.rr (.rr (.rr (.rr (.rr (.zz .ii)))))))))))) fun hs => ?_
    refine t_take 7 (bA 8 255) rfl rfl rfl rfl h hs (v := .bool false) (fun w hS => r_assign h rfl) fun a h=>h_done (by kernel_rfl) ?_
    replace h : Fr 47 a [(2, _), (3, _)] := h.keep [2, 3]
    refine x_then_n (hKJ_3 _ _ ?_)
    refine wp_ret ?_
    obtain rfl := Option.some.inj H
    exact f_ret h (rs := [.cell 2 37, .tmp 3]) rfl (.cell rfl (hS.load_agg (p := 1) (us := [iV t_2.1, v_5, v_6, v_7, v_8, v_9, v_12]) rfl U37 rfl ti37 rfl rfl) (.tmp rfl .nil)) ⟨_, rfl, v_5, v_6, v_7, v_8, v_9, v_12, N_11, M_2, M_3, M_4, M_5, M_6, M_7, rfl, (hS.sel [0, 5, 6, 7, 8, 9, 11] (by decide)), hr_5, ((hr_6.mono ln_4).mono (le_5.trans le_6)), hr_7, ((hr_8.mono ln_4).mono (le_5.trans le_6)), ((hr_9.mono ln_4).mono (le_5.trans le_6)), (ho_1.mono mr)⟩
 clear hKJ_1
 have hS' := hS.room
 replace hS : Sep w0 w_11 [_, _, _, _, _, _, _, _, _, _, _, Mem.no] Z := hS'
 refine c_block <| c_loop (fun k_1 a w_18 => ∃ (x_3 : Int) (x_4 : pack_Reader) (x_5 : List api_Entry) (v_13 : Value) (v_14 : Value) (N_14 : Mem) (M_8 : Mem), blob_read.L1 K t_5 (fun v => blob_read.J1 K t_2 t_4 v.1 v.2) k_1 (x_3, x_4, x_5) = some r ∧ Fr 47 a [(2, .pointer (some ⟨g_1, 0, none⟩)), (3, .bool false), (4, .pointer (some ⟨g_2, 0, none⟩)), (5, .pointer (some ⟨g_3, 0, none⟩)), (7, .bool t_4.2), (22, iV t_5.1), (23, iV x_3)] ∧ Sep w0 w_18 [N_14, bx g_1 37 [iV 0, nS, nS, nS, nS, nS, nS], bx g_2 112 [v_13, .bool x_4.bad], bx g_3 37 [iV t_2.1, v_5, v_6, v_7, v_8, v_9, v_14], Mem.no, M_2, M_3, M_4, M_5, M_6, Mem.no, M_8] Z ∧ N_10.le N_14 ∧ Rd Kd.u8 N_14 v_13 x_4.b ∧ Own k_api_Entry 26 M_8 N_14 v_14 x_5) K ⟨0, (⟨t_5.2.1, t_5.2.2⟩ : pack_Reader), ([] : List api_Entry), v_10, nS, N_10, Mem.no, H, (h.to rfl), (hS.sel [0, 1, 2, 3, 1003, 5, 6, 7, 8, 9, 1009, 11] (by decide)), mr, (hr_10.mono (Mem.un_le le_5 ln_5)), ((Own.nil k_api_Entry 26 N_10).mono mr)⟩ (fun a w h => by obtain ⟨_, _, _, _, _, _, _, H, _⟩ := h; cases (show (none : Option (api_State × Bool)) = some r from H)) ?_
 clear h hS a H
 rintro k_1 a w_18 KL_1 hKL_1 ⟨x_3, x_4, x_5, v_13, v_14, N_14, M_8, H, h, hS, le_8, hr_12, ho_2⟩
 replace H : blob_read.B1 K t_5 (fun v => blob_read.J1 K t_2 t_4 v.1 v.2) (blob_read.L1 K t_5 (fun v => blob_read.J1 K t_2 t_4 v.1 v.2) k_1) x_3 x_4 x_5 = some r := H
 unfold blob_read.B1 at H
 refine qr <| s_cmp (b := decide (x_3 < t_5.1)) h rfl rfl rfl (.inr (.inr (.inl ⟨rfl, rfl⟩))) fun a h=>nx <| c_seq fun KJ_4 hKJ_4 => ?_
 obtain ⟨hc_3, H⟩ | ⟨hc_3, H⟩ := ii H
 ·refine c_cond_t h rfl (dt hc_3) <| wp_skip <| x_then_n (hKJ_4 _ _ ?_)
  refine c_seq fun KJ_5 hKJ_5 => c_block <| h_begin (S := fun w => Sep w0 w [N_14, bx g_1 37 [iV 0, nS, nS, nS, nS, nS, nS], Mem.no, Mem.no, Mem.no, M_2, M_3, M_4, M_5, M_6, Mem.no, Mem.no] Z) 8 (by kernel_rfl) rfl (bA 8 0) (by kernel_rfl) hS fun w_19 hS => ?_
  refine t_take 0 (bA 8 1) rfl rfl rfl rfl h (hS.sub (.cons mr (.rr (.zz (.zz (.zz (.rr (.rr (.rr (.rr (.rr (.zz (.zz .ii))))))))))))) (v := .pointer (some ⟨g_3, 6, none⟩)) (fun w hS => r_fieldAddr h U37 rfl ti27 rfl rfl rfl) fun a h=>t_take 2 (bA 8 5) rfl rfl rfl rfl h (hS.sub (.cons mr (.rr (.zz (.zz (.zz (.rr (.rr (.rr (.rr (.rr (.zz (.zz .ii))))))))))))) (v := .pointer (some ⟨g_2, 0, none⟩)) (fun w hS => r_move h rfl) fun a h=>?_
  obtain ⟨t_7, et_7, H⟩ := bs H
  obtain ⟨t_8, et_8, H⟩ := bs H
  refine h_evs [1, 3] (by kernel_rfl) ⟨⟨_, (bA 8 7), rfl, by kernel_rfl, ?_⟩, ⟨_, (bA 8 13), rfl, by kernel_rfl, ?_⟩, trivial⟩
  ·refine s_load h rfl rfl (hS.load_one (p := 3) rfl U27 rfl rfl) fun a h=>wpList_nil <| x_then_n ⟨(hS.sub (.cons mr (.rr (.zz (.zz (.zz (.rr (.rr (.rr (.rr (.rr (.zz (.zz .ii))))))))))))), ?_⟩
   refine h_event 3 (bA 8 15) rfl (by kernel_rfl) (by kernel_rfl) <| s_call h rfl Try.call58 rfl (mach_GetEntry.calls K _ x_4.b _ x_4.bad t_7 w0 _ _ N_14 (hS.new_zed [1]) (hS.enter [1] (by decide)) hr_12 et_7) ?_
   rintro _ w_20 ⟨v_15, v_16, v_17, v_18, N_15, M_9, M_10, M_11, rfl, hS', hr_13, hr_14, hr_15, hr_16⟩
   intro a h
   obtain ⟨N_16, hS'', le_9, ln_7⟩ := hS.call [1] (by decide) rfl (l' := [_]) (ow := [_, _, _]) rfl hS'
   replace hS : Sep w0 w_20 [N_16, _, _, _, _, _, _, _, _, _, _, _, _, _, _] Z := hS''
   refine ne (hS.sub (.cons le_9 (.rr (.zz (.zz (.zz (.rr (.rr (.rr (.rr (.rr (.zz (.zz .nn))))))))))))) fun hs => ?_
   refine h_event 4 (bA 8 31) rfl (by kernel_rfl) (by kernel_rfl) ?_
   obtain ⟨N_17, hS', le_10, lo_1⟩ := hS.freeze 11 rfl
   replace hS : Sep w0 w_20 [N_17, _, _, _, _, _, _, _, _, _, _, _, Mem.no, _, _] Z := hS'
   obtain ⟨N_18, hS', le_11, lo_2⟩ := hS.freeze 12 rfl
   replace hS : Sep w0 w_20 [N_18, _, _, _, _, _, _, _, _, _, _, _, _, Mem.no, _] Z := hS'
   obtain ⟨N_19, hS', le_12, lo_3⟩ := hS.freeze 13 rfl
   replace hS : Sep w0 w_20 [N_19, _, _, _, _, _, _, _, _, _, _, _, _, _, Mem.no] Z := hS'
   have hq_1 : Reps k_api_Entry N_19 ([t_7.1] : List api_Entry) _ := ((Reps.one (d := k_api_Entry) (x := t_7.1) (k_api_Entry.mk' ((hr_13.rd lo_1 (Mem.no_le _)).mono (le_11.trans le_12)) ((hr_14.rd lo_2 (Mem.no_le _)).mono le_12) (hr_15.rd lo_3 (Mem.no_le _)))).append (Reps.nil k_api_Entry _))
   refine s_buildSlice h rfl U27 ti26 rfl rfl rfl (.cons rfl .nil) rfl rfl rfl hS hq_1 rfl fun w_21 v_19 M_12 hS' ho_3 a h => ?_
   replace hS : Sep w0 w_21 [_, _, _, _, _, _, _, _, _, _, _, _, _, _, _, M_12] Z := hS'
   refine ne (hS.sub (.cons (le_9.trans (le_10.trans (le_11.trans le_12))) (.rr (.zz (.zz (.zz (.rr (.rr (.rr (.rr (.rr (.zz (.zz .nn))))))))))))) fun hs => ?_
   refine h_event 5 (bA 8 63) rfl (by kernel_rfl) (by kernel_rfl) <| s_append (J := N_19) (I' := N_19) (p := 11) 1353245080339 h rfl rfl rfl U27 ti26 rfl rfl rfl rfl hS rfl ho_2 (ho_3.src (hS.own 15)) (le_9.trans (le_10.trans (le_11.trans le_12))) mr et_8 fun w_22 v_20 M_13 hS' ho_4 a h => ?_
   replace hS : Sep w0 w_22 [_, _, _, _, _, _, _, _, _, _, _, M_13, _, _, _, _] Z := hS'
   refine ne (hS.sub (.cons (le_9.trans (le_10.trans (le_11.trans le_12))) (.rr (.zz (.zz (.zz (.rr (.rr (.rr (.rr (.rr (.zz (.zz .nn))))))))))))) fun hs => ?_
   refine t_take 6 (bA 8 127) rfl rfl rfl rfl h hs (v := .pointer (some ⟨g_3, 6, none⟩)) (fun w hS => r_fieldAddr h U37 rfl ti27 rfl rfl rfl) fun a h=>h_event 7 (bA 8 255) rfl (by kernel_rfl) (by kernel_rfl) ?_
   refine sto 3 h rfl rfl hS rfl ti27 ho_4.cellsA rfl rfl (oc ho_4.one on0) fun w_23 hS' => ?_
   replace hS : Sep w0 w_23 [_, _, _, bx g_3 37 [_, _, _, _, _, _, v_20], _, _, _, _, _, _, _, _, _, _, _, _] Z := hS'
   refine ne (hS.sub (.cons (le_9.trans (le_10.trans (le_11.trans le_12))) (.rr (.zz (.zz (.zz (.rr (.rr (.rr (.rr (.rr (.zz (.zz .nn))))))))))))) fun hs => ?_
   refine h_done (by kernel_rfl) ?_
   replace h : Fr 47 a [(2, _), (3, _), (4, _), (5, _), (7, _), (22, _), (23, _)] := h.keep [2, 3, 4, 5, 7, 22, 23]
   refine x_block_n <| x_then_n (hKJ_5 _ _ ?_)
   refine wp_region_lit <| s_arith (r := w64 (x_3 + 1)) h rfl rfl rfl (.inl ⟨rfl, rfl⟩) fun a h=>mv h rfl fun a h=>wpList_nil <| x_then_n (hKL_1 _ _ ?_)
   exact ⟨w64 (x_3 + 1), (⟨t_7.2.1, t_7.2.2⟩ : pack_Reader), t_8, v_18, v_20, N_19, M_13, H, (h.to rfl), (hS.sel [0, 1, 2, 3, 1003, 5, 6, 7, 8, 9, 1009, 11] (by decide)), (le_8.trans (le_9.trans (le_10.trans (le_11.trans le_12)))), ((hr_16.mono (Mem.un_le le_9 ln_7)).mono (le_10.trans (le_11.trans le_12))), (ho_4.mono mr)⟩
  ·refine s_call h rfl Try.call58 rfl (mach_GetEntry.calls K _ x_4.b _ x_4.bad t_7 w0 _ _ N_14 (hS.new_zed [1]) (hS.enter [1] (by decide)) hr_12 et_7) ?_
   rintro _ w_24 ⟨v_21, v_22, v_23, v_24, N_20, M_14, M_15, M_16, rfl, hS', hr_17, hr_18, hr_19, hr_20⟩
   intro a h
   obtain ⟨N_21, hS'', le_13, ln_8⟩ := hS.call [1] (by decide) rfl (l' := [_]) (ow := [_, _, _]) rfl hS'
   replace hS : Sep w0 w_24 [N_21, _, _, _, _, _, _, _, _, _, _, _, _, _, _] Z := hS''
   refine ne (hS.sub (.cons le_13 (.rr (.zz (.zz (.zz (.rr (.rr (.rr (.rr (.rr (.zz (.zz .nn))))))))))))) fun hs => ?_
   refine h_evs [1, 4] (by kernel_rfl) ⟨⟨_, (bA 8 15), rfl, by kernel_rfl, ?_⟩, ⟨_, (bA 8 29), rfl, by kernel_rfl, ?_⟩, trivial⟩
   ·refine s_load h rfl rfl (hS.load_one (p := 3) rfl U27 rfl rfl) fun a h=>wpList_nil <| x_then_n ⟨(hS.sub (.cons le_13 (.rr (.zz (.zz (.zz (.rr (.rr (.rr (.rr (.rr (.zz (.zz .nn))))))))))))), ?_⟩
    refine h_event 4 (bA 8 31) rfl (by kernel_rfl) (by kernel_rfl) ?_
    obtain ⟨N_22, hS', le_14, lo_4⟩ := hS.freeze 11 rfl
    replace hS : Sep w0 w_24 [N_22, _, _, _, _, _, _, _, _, _, _, _, Mem.no, _, _] Z := hS'
    obtain ⟨N_23, hS', le_15, lo_5⟩ := hS.freeze 12 rfl
    replace hS : Sep w0 w_24 [N_23, _, _, _, _, _, _, _, _, _, _, _, _, Mem.no, _] Z := hS'
    obtain ⟨N_24, hS', le_16, lo_6⟩ := hS.freeze 13 rfl
    replace hS : Sep w0 w_24 [N_24, _, _, _, _, _, _, _, _, _, _, _, _, _, Mem.no] Z := hS'
    have hq_2 : Reps k_api_Entry N_24 ([t_7.1] : List api_Entry) _ := ((Reps.one (d := k_api_Entry) (x := t_7.1) (k_api_Entry.mk' ((hr_17.rd lo_4 (Mem.no_le _)).mono (le_15.trans le_16)) ((hr_18.rd lo_5 (Mem.no_le _)).mono le_16) (hr_19.rd lo_6 (Mem.no_le _)))).append (Reps.nil k_api_Entry _))
    refine s_buildSlice h rfl U27 ti26 rfl rfl rfl (.cons rfl .nil) rfl rfl rfl hS hq_2 rfl fun w_25 v_25 M_17 hS' ho_5 a h => ?_
    replace hS : Sep w0 w_25 [_, _, _, _, _, _, _, _, _, _, _, _, _, _, _, M_17] Z := hS'
    refine ne (hS.sub (.cons (le_13.trans (le_14.trans (le_15.trans le_16))) (.rr (.zz (.zz (.zz (.rr (.rr (.rr (.rr (.rr (.zz (.zz .nn))))))))))))) fun hs => ?_
    refine h_event 5 (bA 8 63) rfl (by kernel_rfl) (by kernel_rfl) <| s_append (J := N_24) (I' := N_24) (p := 11) 1353245080339 h rfl rfl rfl U27 ti26 rfl rfl rfl rfl hS rfl ho_2 (ho_5.src (hS.own 15)) (le_13.trans (le_14.trans (le_15.trans le_16))) mr et_8 fun w_26 v_26 M_18 hS' ho_6 a h => ?_
    replace hS : Sep w0 w_26 [_, _, _, _, _, _, _, _, _, _, _, M_18, _, _, _, _] Z := hS'
    refine ne (hS.sub (.cons (le_13.trans (le_14.trans (le_15.trans le_16))) (.rr (.zz (.zz (.zz (.rr (.rr (.rr (.rr (.rr (.zz (.zz .nn))))))))))))) fun hs => ?_
    refine t_take 6 (bA 8 127) rfl rfl rfl rfl h hs (v := .pointer (some ⟨g_3, 6, none⟩)) (fun w hS => r_fieldAddr h U37 rfl ti27 rfl rfl rfl) fun a h=>h_event 7 (bA 8 255) rfl (by kernel_rfl) (by kernel_rfl) ?_
    refine sto 3 h rfl rfl hS rfl ti27 ho_6.cellsA rfl rfl (oc ho_6.one on0) fun w_27 hS' => ?_
    replace hS : Sep w0 w_27 [_, _, _, bx g_3 37 [_, _, _, _, _, _, v_26], _, _, _, _, _, _, _, _, _, _, _, _] Z := hS'
    refine ne (hS.sub (.cons (le_13.trans (le_14.trans (le_15.trans le_16))) (.rr (.zz (.zz (.zz (.rr (.rr (.rr (.rr (.rr (.zz (.zz .nn))))))))))))) fun hs => ?_
    refine h_done (by kernel_rfl) ?_
    replace h : Fr 47 a [(2, _), (3, _), (4, _), (5, _), (7, _), (22, _), (23, _)] := h.keep [2, 3, 4, 5, 7, 22, 23]
    refine x_block_n <| x_then_n (hKJ_5 _ _ ?_)
    refine wp_region_lit <| s_arith (r := w64 (x_3 + 1)) h rfl rfl rfl (.inl ⟨rfl, rfl⟩) fun a h=>mv h rfl fun a h=>wpList_nil <| x_then_n (hKL_1 _ _ ?_)
    exact ⟨w64 (x_3 + 1), (⟨t_7.2.1, t_7.2.2⟩ : pack_Reader), t_8, v_24, v_26, N_24, M_18, H, (h.to rfl), (hS.sel [0, 1, 2, 3, 1003, 5, 6, 7, 8, 9, 1009, 11] (by decide)), (le_8.trans (le_13.trans (le_14.trans (le_15.trans le_16)))), ((hr_20.mono (Mem.un_le le_13 ln_8)).mono (le_14.trans (le_15.trans le_16))), (ho_6.mono mr)⟩
   ·obtain ⟨N_25, hS', le_17, lo_7⟩ := hS.freeze 11 rfl
    replace hS : Sep w0 w_24 [N_25, _, _, _, _, _, _, _, _, _, _, _, Mem.no, _, _] Z := hS'
    obtain ⟨N_26, hS', le_18, lo_8⟩ := hS.freeze 12 rfl
    replace hS : Sep w0 w_24 [N_26, _, _, _, _, _, _, _, _, _, _, _, _, Mem.no, _] Z := hS'
    obtain ⟨N_27, hS', le_19, lo_9⟩ := hS.freeze 13 rfl
    replace hS : Sep w0 w_24 [N_27, _, _, _, _, _, _, _, _, _, _, _, _, _, Mem.no] Z := hS'
    have hq_3 : Reps k_api_Entry N_27 ([t_7.1] : List api_Entry) _ := ((Reps.one (d := k_api_Entry) (x := t_7.1) (k_api_Entry.mk' ((hr_17.rd lo_7 (Mem.no_le _)).mono (le_18.trans le_19)) ((hr_18.rd lo_8 (Mem.no_le _)).mono le_19) (hr_19.rd lo_9 (Mem.no_le _)))).append (Reps.nil k_api_Entry _))
    refine s_buildSlice h rfl U27 ti26 rfl rfl rfl (.cons rfl .nil) rfl rfl rfl hS hq_3 rfl fun w_28 v_27 M_19 hS' ho_7 a h => ?_
    replace hS : Sep w0 w_28 [_, _, _, _, _, _, _, _, _, _, _, _, _, _, _, M_19] Z := hS'
    refine ne (hS.sub (.cons (le_13.trans (le_17.trans (le_18.trans le_19))) (.rr (.zz (.zz (.zz (.rr (.rr (.rr (.rr (.rr (.zz (.zz .nn))))))))))))) fun hs => ?_
    refine h_event 1 (bA 8 31) rfl (by kernel_rfl) (by kernel_rfl) <| s_load h rfl rfl (hS.load_one (p := 3) rfl U27 rfl rfl) fun a h=>wpList_nil <| x_then_n ⟨(hS.sub (.cons (le_13.trans (le_17.trans (le_18.trans le_19))) (.rr (.zz (.zz (.zz (.rr (.rr (.rr (.rr (.rr (.zz (.zz .nn))))))))))))), ?_⟩
    refine h_event 5 (bA 8 63) rfl (by kernel_rfl) (by kernel_rfl) <| s_append (J := N_27) (I' := N_27) (p := 11) 1353245080339 h rfl rfl rfl U27 ti26 rfl rfl rfl rfl hS rfl ho_2 (ho_7.src (hS.own 15)) (le_13.trans (le_17.trans (le_18.trans le_19))) mr et_8 fun w_29 v_28 M_20 hS' ho_8 a h => ?_
    replace hS : Sep w0 w_29 [_, _, _, _, _, _, _, _, _, _, _, M_20, _, _, _, _] Z := hS'
    refine ne (hS.sub (.cons (le_13.trans (le_17.trans (le_18.trans le_19))) (.rr (.zz (.zz (.zz (.rr (.rr (.rr (.rr (.rr (.zz (.zz .nn))))))))))))) fun hs => ?_
    refine t_take 6 (bA 8 127) rfl rfl rfl rfl h hs (v := .pointer (some ⟨g_3, 6, none⟩)) (fun w hS => r_fieldAddr h U37 rfl ti27 rfl rfl rfl) fun a h=>h_event 7 (bA 8 255) rfl (by kernel_rfl) (by kernel_rfl) ?_
    refine sto 3 h rfl rfl hS rfl ti27 ho_8.cellsA rfl rfl (oc ho_8.one on0) fun w_30 hS' => ?_
    replace hS : Sep w0 w_30 [_, _, _, bx g_3 37 [_, _, _, _, _, _, v_28], _, _, _, _, _, _, _, _, _, _, _, _] Z := hS'
    refine ne (hS.sub (.cons (le_13.trans (le_17.trans (le_18.trans le_19))) (.rr (.zz (.zz (.zz (.rr (.rr (.rr (.rr (.rr (.zz (.zz .nn))))))))))))) fun hs => ?_
    refine h_done (by kernel_rfl) ?_
    replace h : Fr 47 a [(2, _), (3, _), (4, _), (5, _), (7, _), (22, _), (23, _)] := h.keep [2, 3, 4, 5, 7, 22, 23]
    refine x_block_n <| x_then_n (hKJ_5 _ _ ?_)
    refine wp_region_lit <| s_arith (r := w64 (x_3 + 1)) h rfl rfl rfl (.inl ⟨rfl, rfl⟩) fun a h=>mv h rfl fun a h=>wpList_nil <| x_then_n (hKL_1 _ _ ?_)
    exact ⟨w64 (x_3 + 1), (⟨t_7.2.1, t_7.2.2⟩ : pack_Reader), t_8, v_24, v_28, N_27, M_20, H, (h.to rfl), (hS.sel [0, 1, 2, 3, 1003, 5, 6, 7, 8, 9, 1009, 11] (by decide)), (le_8.trans (le_13.trans (le_17.trans (le_18.trans le_19)))), ((hr_20.mono (Mem.un_le le_13 ln_8)).mono (le_17.trans (le_18.trans le_19))), (ho_8.mono mr)⟩
 ·refine c_cond_f h rfl (df hc_3) <| wp_exit (x_then_x (x_then_x (x_block_t ?_)))
  exact x_then_n (hJ_j_1 x_4 x_5 H _ _ ⟨v_13, v_14, N_14, M_8, (h.to rfl), (hS.sel [0, 1, 2, 3, 1003, 5, 6, 7, 8, 9, 1009, 11] (by decide)), le_8, hr_12, (ho_2.mono mr)⟩)

set_option maxHeartbeats 4000000 in
set_option maxRecDepth 20000 in
theorem blob_Decode.calls (K : Nat) (x0 : List UInt8) (p0_0 : Value) (r : api_State × Bool) (w0 w : World) (Z A : Mem) (hA : A.le Z) (hS : Sep w0 w [] Z) (hp0_0 : Rd Kd.u8 A p0_0 x0)
    (H : blob_Decode.f K x0 = some r) :
    Calls Try.prog 9 [p0_0].toArray w (Ret fun v w' => ∃ (u0 : Value) (u1 : Value) (u2 : Value) (u3 : Value) (u4 : Value) (u5 : Value) (N : Mem) (M0 : Mem) (M1 : Mem) (M2 : Mem) (M3 : Mem) (M4 : Mem) (M5 : Mem), v = .tuple [.agg [iV r.1.At, u0, u1, u2, u3, u4, u5].toArray, .bool r.2].toArray ∧ Sep w0 w' [N, M0, M1, M2, M3, M4, M5] Z ∧ Own Kd.u8 5 M0 Mem.no u0 r.1.Machine.Objects.Reg ∧ Own (Kd.slice Kd.u8) 22 M1 N u1 r.1.Machine.Objects.Queue ∧ Own (Kd.int .i64) 3 M2 Mem.no u2 r.1.Machine.Objects.Lock ∧ Own k_api_Pair 88 M3 N u3 r.1.Machine.Objects.Map ∧ Own k_api_Last 93 M4 N u4 r.1.Machine.Table ∧ Own k_api_Entry 26 M5 N u5 r.1.Rest) := by
 unfold blob_Decode.f at H
 refine f_enter _ Try.func9 rfl Try.ntmps9 rfl fun a h=>?_
 replace h : Fr 26 a [(0, p0_0)] := h
 replace hS := hS.start
 refine qr <| v_alloc h rfl ti37 hS fun w_1 g_1 hS' a h => ?_
 replace hS : Sep w0 w_1 [_, bx g_1 37 [iV 0, nS, nS, nS, nS, nS, nS]] Z := hS'
 refine sg h rfl fun a h=>nx <| qr <| mv h rfl fun a h=>?_
 obtain ⟨t_1, et_1, H⟩ := bs H
 refine s_call h rfl Try.call26 rfl (fram_Sound.calls K x0 _ t_1 w0 _ _ A (hA.trans (hS.le_zed [])) (hS.enter [] (by decide)) hp0_0 et_1) ?_
 rintro _ w_2 ⟨v_1, N_1, rfl, hS', hr_1⟩
 intro a h
 obtain ⟨N_2, hS'', le_1, ln_1⟩ := hS.call [] (by decide) rfl (l' := []) (ow := []) rfl hS'
 replace hS : Sep w0 w_2 [N_2, _] Z := hS''
 have hr_2 : Rd Kd.u8 (A.un N_2) v_1 t_1.1 := hr_1.mono (Mem.un_left ln_1)
 refine mv h rfl fun a h=>s_extract h rfl rfl rfl fun a h=>s_extract h rfl rfl rfl fun a h=>sg h rfl fun a h=>sg h rfl fun a h=>nx <| qr <| mv h rfl fun a h=>?_
 obtain ⟨t_2, et_2, H⟩ := bs H
 refine s_call h rfl Try.call27 rfl (blob_read.calls K t_1.1 _ t_2 w0 _ _ _ mr (hS.enter [] (by decide)) (hr_2.mono (Mem.un_le (hA.trans (hS.le_zed [])) (mr.trans (hS.new_zed [])))) et_2) ?_
 rintro _ w_3 ⟨v_2, v_3, v_4, v_5, v_6, v_7, N_3, M_1, M_2, M_3, M_4, M_5, M_6, rfl, hS', hr_3, hr_4, hr_5, hr_6, hr_7, hr_8⟩
 intro a h
 obtain ⟨N_4, hS'', le_2, ln_2⟩ := hS.call [] (by decide) rfl (l' := []) (ow := [_, _, _, _, _, _]) rfl hS'
 replace hS : Sep w0 w_3 [N_4, _, _, _, _, _, _, _] Z := hS''
 refine mv h rfl fun a h=>s_extract h rfl rfl rfl fun a h=>s_extract h rfl rfl rfl fun a h=>v_alloc h rfl ti37 hS fun w_4 g_2 hS' a h => ?_
 replace hS : Sep w0 w_4 [_, _, _, _, _, _, _, _, bx g_2 37 [iV 0, nS, nS, nS, nS, nS, nS]] Z := hS'
 refine sto 8 h rfl rfl hS rfl ti37 rfl rfl rfl (oa 1 rfl (oc hr_3.one (oc (hr_4.mono ln_2).one (oc hr_5.one (oc (hr_6.mono ln_2).one (oc (hr_7.mono ln_2).one (oc (hr_8.mono ln_2).one on0))))))) fun w_5 hS' => ?_
 replace hS : Sep w0 w_5 [_, _, _, _, _, _, _, _, bx g_2 37 [iV t_2.1.At, v_2, v_3, v_4, v_5, v_6, v_7]] Z := hS'
 refine sg h rfl fun a h=>nx <| c_seq fun KJ_1 hKJ_1 => c_seq fun KJ_2 hKJ_2 => ?_
 have hJ_j_1 : ∀ (x_1 : Bool), blob_Decode.J1 K t_2 x_1 = some r → ∀ (a : Act) (w_6 : World), (∃ (N_5 : Mem), Fr 26 a [(2, .pointer (some ⟨g_1, 0, none⟩)), (3, .bool false), (6, .pointer (some ⟨g_2, 0, none⟩)), (23, .bool x_1)] ∧ Sep w0 w_6 [N_5, bx g_1 37 [iV 0, nS, nS, nS, nS, nS, nS], M_1, M_2, M_3, M_4, M_5, M_6, bx g_2 37 [iV t_2.1.At, v_2, v_3, v_4, v_5, v_6, v_7]] Z ∧ N_4.le N_5) → KJ_2 a w_6 := by
  clear H h hS a
  rintro x_1 H a w_6 ⟨N_5, h, hS, le_3⟩
  unfold blob_Decode.J1 at H
  refine hKJ_2 _ _ ?_
  obtain ⟨hc_1, H⟩ | ⟨hc_1, H⟩ := ii H
  ·refine c_cond_t h rfl hc_1 <| qr <| s_build h rfl ti37 pl37 rfl .nil (cs := [iV 0, nS, nS, nS, nS, nS, nS]) (by kernel_rfl) fun a h=>?_
   refine sto 1 h rfl rfl hS rfl ti37 rfl rfl rfl (oz rfl) fun w_7 hS' => ?_
   replace hS : Sep w0 w_7 [_, _, _, _, _, _, _, _, _] Z := hS'
   refine sg h rfl fun a h=>wpList_nil ?_
   replace h : Fr 26 a [(2, _), (3, _), (6, _)] := h.keep [2, 3, 6]
   refine x_then_n <| wp_ret (x_then_r ?_)
   have hS' := hS.room
   replace hS : Sep w0 w_7 [_, _, _, _, _, _, _, _, _, Mem.no] Z := hS'
   have hS' := hS.room
   replace hS : Sep w0 w_7 [_, _, _, _, _, _, _, _, _, _, Mem.no] Z := hS'
   have hS' := hS.room
   replace hS : Sep w0 w_7 [_, _, _, _, _, _, _, _, _, _, _, Mem.no] Z := hS'
   have hS' := hS.room
   replace hS : Sep w0 w_7 [_, _, _, _, _, _, _, _, _, _, _, _, Mem.no] Z := hS'
   have hS' := hS.room
   replace hS : Sep w0 w_7 [_, _, _, _, _, _, _, _, _, _, _, _, _, Mem.no] Z := hS'
   have hS' := hS.room
   replace hS : Sep w0 w_7 [_, _, _, _, _, _, _, _, _, _, _, _, _, _, Mem.no] Z := hS'
   obtain rfl := Option.some.inj H
   exact f_ret h (rs := [.cell 2 37, .tmp 3]) rfl (.cell rfl (hS.load_agg (p := 1) (us := [iV 0, nS, nS, nS, nS, nS, nS]) rfl U37 rfl ti37 rfl rfl) (.tmp rfl .nil)) ⟨_, rfl, nS, nS, nS, nS, nS, nS, N_5, Mem.no, Mem.no, Mem.no, Mem.no, Mem.no, Mem.no, rfl, (hS.sel [0, 9, 10, 11, 12, 13, 14] (by decide)), (Own.nil Kd.u8 5 Mem.no), ((Own.nil (Kd.slice Kd.u8) 22 N_5).mono mr), (Own.nil (Kd.int .i64) 3 Mem.no), ((Own.nil k_api_Pair 88 N_5).mono mr), ((Own.nil k_api_Last 93 N_5).mono mr), ((Own.nil k_api_Entry 26 N_5).mono mr)⟩
  ·refine c_cond_f h rfl (ef hc_1) <| wp_skip <| x_then_n (hKJ_1 _ _ ?_)
   refine qr <| s_load h rfl rfl (hS.load_agg (p := 8) (us := [iV t_2.1.At, v_2, v_3, v_4, v_5, v_6, v_7]) rfl U37 rfl ti37 rfl rfl) fun a h=>?_
   refine sto 1 h rfl rfl hS rfl ti37 rfl rfl rfl (oa 1 rfl (oc hr_3.one (oc (hr_4.mono ln_2).one (oc hr_5.one (oc (hr_6.mono ln_2).one (oc (hr_7.mono ln_2).one (oc (hr_8.mono ln_2).one on0))))))) fun w_8 hS' => ?_
   replace hS : Sep w0 w_8 [_, bx g_1 37 [iV t_2.1.At, v_2, v_3, v_4, v_5, v_6, v_7], _, _, _, _, _, _, _] Z := hS'
   refine sg h rfl fun a h=>wpList_nil ?_
   replace h : Fr 26 a [(2, _), (3, .bool true)] := h.keep [2, 3]
   refine x_then_n <| wp_ret ?_
   obtain rfl := Option.some.inj H
   exact f_ret h (rs := [.cell 2 37, .tmp 3]) rfl (.cell rfl (hS.load_agg (p := 1) (us := [iV t_2.1.At, v_2, v_3, v_4, v_5, v_6, v_7]) rfl U37 rfl ti37 rfl rfl) (.tmp rfl .nil)) ⟨_, rfl, v_2, v_3, v_4, v_5, v_6, v_7, N_5, M_1, M_2, M_3, M_4, M_5, M_6, rfl, (hS.sel [0, 2, 3, 4, 5, 6, 7] (by decide)), hr_3, ((hr_4.mono ln_2).mono le_3), hr_5, ((hr_6.mono ln_2).mono le_3), ((hr_7.mono ln_2).mono le_3), ((hr_8.mono ln_2).mono le_3)⟩
 clear hKJ_2
 refine wp_region_lit <| mv h rfl fun a h=>s_not h rfl rfl fun a h=>mv h rfl fun a h=>?_
 obtain ⟨hc_2, H⟩ | ⟨hc_2, H⟩ := ii H
 ·refine s_on h rfl rfl (nf hc_2) <| mv h rfl fun a h=>s_on h rfl rfl (nf hc_2) <| s_not h rfl rfl fun a h=>pf h rfl (nf hc_2) fun a h=>wpList_nil ?_
  replace h : Fr 26 a [(2, .pointer (some ⟨g_1, 0, none⟩)), (3, .bool false), (6, .pointer (some ⟨g_2, 0, none⟩)), (23, .bool (!t_2.2))] := h.keep [2, 3, 6, 23]
  exact x_then_n (hJ_j_1 (!t_2.2) H _ _ ⟨N_4, (h.to rfl), (hS.sel [0, 1, 2, 3, 4, 5, 6, 7, 8] (by decide)), mr⟩)
 ·refine of h rfl rfl (nt (ef hc_2)) fun a h=>of h rfl rfl (nt (ef hc_2)) fun a h=>pt h rfl (nt (ef hc_2)) fun a h=>wpList_nil ?_
  replace h : Fr 26 a [(2, .pointer (some ⟨g_1, 0, none⟩)), (3, .bool false), (6, .pointer (some ⟨g_2, 0, none⟩)), (23, .bool true)] := h.keep [2, 3, 6, 23]
  exact x_then_n (hJ_j_1 true H _ _ ⟨N_4, (h.to rfl), (hS.sel [0, 1, 2, 3, 4, 5, 6, 7, 8] (by decide)), mr⟩)

set_option maxHeartbeats 4000000 in
set_option maxRecDepth 20000 in
theorem xfer_Fetch_Done.calls (K : Nat) (g0 : Nat) (x0_v : Int) (x0_me : Int) (x0_source : Int) (x0_b : List UInt8) (p0_0 : Value) (x0_total : Int) (x0_begun : Bool) (x0_done : Bool) (r : api_State × Bool) (w0 w : World) (Z A : Mem) (hA : A.le Z) (hS : Sep w0 w [bx g0 109 [iV x0_v, iV x0_me, iV x0_source, p0_0, iV x0_total, .bool x0_begun, .bool x0_done]] Z) (hp0_0 : Rd Kd.u8 A p0_0 x0_b)
    (H : xfer_Fetch_Done.f K x0_v x0_me x0_source x0_b x0_total x0_begun x0_done = some r) :
    Calls Try.prog 47 [.pointer (some ⟨g0, 0, none⟩)].toArray w (Ret fun v w' => ∃ (u0 : Value) (u1 : Value) (u2 : Value) (u3 : Value) (u4 : Value) (u5 : Value) (N : Mem) (M0 : Mem) (M1 : Mem) (M2 : Mem) (M3 : Mem) (M4 : Mem) (M5 : Mem), v = .tuple [.agg [iV r.1.At, u0, u1, u2, u3, u4, u5].toArray, .bool r.2].toArray ∧ Sep w0 w' [N, bx g0 109 [iV x0_v, iV x0_me, iV x0_source, p0_0, iV x0_total, .bool x0_begun, .bool x0_done], M0, M1, M2, M3, M4, M5] Z ∧ Own Kd.u8 5 M0 Mem.no u0 r.1.Machine.Objects.Reg ∧ Own (Kd.slice Kd.u8) 22 M1 N u1 r.1.Machine.Objects.Queue ∧ Own (Kd.int .i64) 3 M2 Mem.no u2 r.1.Machine.Objects.Lock ∧ Own k_api_Pair 88 M3 N u3 r.1.Machine.Objects.Map ∧ Own k_api_Last 93 M4 N u4 r.1.Machine.Table ∧ Own k_api_Entry 26 M5 N u5 r.1.Rest) := by
 unfold xfer_Fetch_Done.f at H
 refine f_enter _ Try.func47 rfl Try.ntmps47 rfl fun a h=>?_
 replace h : Fr 17 a [(0, .pointer (some ⟨g0, 0, none⟩))] := h
 replace hS := hS.start
 refine qr <| v_alloc h rfl ti37 hS fun w_1 g_1 hS' a h => ?_
 replace hS : Sep w0 w_1 [_, _, bx g_1 37 [iV 0, nS, nS, nS, nS, nS, nS]] Z := hS'
 refine sg h rfl fun a h=>nx <| c_seq fun KJ_1 hKJ_1 => qr <| mv h rfl fun a h=>s_nilCheck h rfl rfl fun a h=>s_fieldAddr h rfl U109 rfl ti4 rfl rfl fun a h=>s_load h rfl rfl (hS.load_one (p := 1) rfl U4 rfl rfl) fun a h=>s_not h rfl rfl fun a h=>wpList_nil <| x_then_n ?_
 obtain ⟨hc_1, H⟩ | ⟨hc_1, H⟩ := ii H
 ·refine c_cond_f h rfl (nf hc_1) <| wp_skip <| x_then_n (hKJ_1 _ _ ?_)
  refine qr <| mv h rfl fun a h=>s_nilCheck h rfl rfl fun a h=>s_fieldAddr h rfl U109 rfl ti22 rfl rfl fun a h=>s_load h rfl rfl (hS.load_one (p := 1) rfl U22 rfl rfl) fun a h=>?_
  obtain ⟨t_1, et_1, H⟩ := bs H
  refine s_call h rfl Try.call9 rfl (blob_Decode.calls K x0_b _ t_1 w0 _ _ _ mr (hS.enter [] (by decide)) (hp0_0.mono (hA.trans (hS.le_zed []))) et_1) ?_
  rintro _ w_2 ⟨v_1, v_2, v_3, v_4, v_5, v_6, N_1, M_1, M_2, M_3, M_4, M_5, M_6, rfl, hS', hr_1, hr_2, hr_3, hr_4, hr_5, hr_6⟩
  intro a h
  obtain ⟨N_2, hS'', le_1, ln_1⟩ := hS.call [] (by decide) rfl (l' := []) (ow := [_, _, _, _, _, _]) rfl hS'
  replace hS : Sep w0 w_2 [N_2, _, _, _, _, _, _, _, _] Z := hS''
  refine s_extract h rfl rfl rfl fun a h=>s_extract h rfl rfl rfl fun a h=>?_
  refine sto 2 h rfl rfl hS rfl ti37 rfl rfl rfl (oa 1 rfl (oc hr_1.one (oc (hr_2.mono ln_1).one (oc hr_3.one (oc (hr_4.mono ln_1).one (oc (hr_5.mono ln_1).one (oc (hr_6.mono ln_1).one on0))))))) fun w_3 hS' => ?_
  replace hS : Sep w0 w_3 [_, _, bx g_1 37 [iV t_1.1.At, v_1, v_2, v_3, v_4, v_5, v_6], _, _, _, _, _, _] Z := hS'
  refine sg h rfl fun a h=>nx <| wp_ret ?_
  obtain rfl := Option.some.inj H
  exact f_ret h (rs := [.cell 2 37, .tmp 3]) rfl (.cell rfl (hS.load_agg (p := 2) (us := [iV t_1.1.At, v_1, v_2, v_3, v_4, v_5, v_6]) rfl U37 rfl ti37 rfl rfl) (.tmp rfl .nil)) ⟨_, rfl, v_1, v_2, v_3, v_4, v_5, v_6, N_2, M_1, M_2, M_3, M_4, M_5, M_6, rfl, (hS.sel [0, 1, 3, 4, 5, 6, 7, 8] (by decide)), hr_1, ((hr_2.mono ln_1).mono mr), hr_3, ((hr_4.mono ln_1).mono mr), ((hr_5.mono ln_1).mono mr), ((hr_6.mono ln_1).mono mr)⟩
 ·refine c_cond_t h rfl (nt (ef hc_1)) <| qr <| s_build h rfl ti37 pl37 rfl .nil (cs := [iV 0, nS, nS, nS, nS, nS, nS]) (by kernel_rfl) fun a h=>?_
  refine sto 2 h rfl rfl hS rfl ti37 rfl rfl rfl (oz rfl) fun w_4 hS' => ?_
  replace hS : Sep w0 w_4 [_, _, _] Z := hS'
  refine sg h rfl fun a h=>nx <| wp_ret (x_then_r ?_)
  have hS' := hS.room
  replace hS : Sep w0 w_4 [_, _, _, Mem.no] Z := hS'
  have hS' := hS.room
  replace hS : Sep w0 w_4 [_, _, _, _, Mem.no] Z := hS'
  have hS' := hS.room
  replace hS : Sep w0 w_4 [_, _, _, _, _, Mem.no] Z := hS'
  have hS' := hS.room
  replace hS : Sep w0 w_4 [_, _, _, _, _, _, Mem.no] Z := hS'
  have hS' := hS.room
  replace hS : Sep w0 w_4 [_, _, _, _, _, _, _, Mem.no] Z := hS'
  have hS' := hS.room
  replace hS : Sep w0 w_4 [_, _, _, _, _, _, _, _, Mem.no] Z := hS'
  obtain rfl := Option.some.inj H
  exact f_ret h (rs := [.cell 2 37, .tmp 3]) rfl (.cell rfl (hS.load_agg (p := 2) (us := [iV 0, nS, nS, nS, nS, nS, nS]) rfl U37 rfl ti37 rfl rfl) (.tmp rfl .nil)) ⟨_, rfl, nS, nS, nS, nS, nS, nS, Mem.no, Mem.no, Mem.no, Mem.no, Mem.no, Mem.no, Mem.no, rfl, (hS.sel [0, 1, 3, 4, 5, 6, 7, 8] (by decide)), (Own.nil Kd.u8 5 Mem.no), ((Own.nil (Kd.slice Kd.u8) 22 Mem.no).mono mr), (Own.nil (Kd.int .i64) 3 Mem.no), ((Own.nil k_api_Pair 88 Mem.no).mono mr), ((Own.nil k_api_Last 93 Mem.no).mono mr), ((Own.nil k_api_Entry 26 Mem.no).mono mr)⟩


end Go.Proofs
