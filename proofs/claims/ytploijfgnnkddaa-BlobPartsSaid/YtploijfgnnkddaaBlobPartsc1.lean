/- What the calls do: each function once. -/
import Derived.Test.YtploijfgnnkddaaBlobPartsc0
namespace Go.Proofs
open Go.Gp
set_option linter.unusedVariables false
set_option maxHeartbeats 4000000 in
set_option maxRecDepth 20000 in
theorem hocketref4_SameRows.calls (K : Nat) (x0 : List (List UInt8)) (p0_0 : Value) (x1 : List (List UInt8)) (p1_1 : Value) (r : Bool) (w0 w : World) (Z A : Mem) (hA : A.le Z) (hS : Sep w0 w [] Z) (hp0_0 : Rd (Kd.slice Kd.u8) A p0_0 x0) (hp1_1 : Rd (Kd.slice Kd.u8) A p1_1 x1)
    (H : hocketref4_SameRows.f K x0 x1 = some r) :
    Calls Try.prog 65 [p0_0, p1_1].toArray w (Ret fun v w' => ∃ (N : Mem), v = .bool r ∧ Sep w0 w' [N] Z) := by
 unfold hocketref4_SameRows.f at H
 refine f_enter _ Try.func65 rfl Try.ntmps65 rfl fun a h=>?_
 replace h : Fr 28 a [(0, p0_0), (1, p1_1)] := h
 replace hS := hS.start
 refine qr <| sg h rfl fun a h=>nx <| c_seq fun KJ_1 hKJ_1 => qr <| mv h rfl fun a h=>s_len h rfl U28 rfl hp0_0 fun a h=>mv h rfl fun a h=>s_len h rfl U28 rfl hp1_1 fun a h=>?_
 refine s_cmp (b := ((x0.length : Int) != (x1.length : Int))) h rfl rfl rfl (.inr (.inl ⟨rfl, rfl⟩)) fun a h=>wpList_nil <| x_then_n ?_
 obtain ⟨hc_1, H⟩ | ⟨hc_1, H⟩ := ii H
 ·refine c_cond_f h rfl (xf hc_1) <| wp_skip <| x_then_n (hKJ_1 _ _ ?_)
  refine c_seq fun KJ_2 hKJ_2 => qr <| sg h rfl fun a h=>wpList_nil <| x_then_n ?_
  have hJ_j_1 : hocketref4_SameRows.J1 K = some r → ∀ (a : Act) (w_1 : World), (∃ (N_1 : Mem), Fr 28 a [(4, .bool false)] ∧ Sep w0 w_1 [N_1] Z ∧ Mem.no.le N_1) → KJ_2 a w_1 := by
   clear H h hS a
   rintro H a w_1 ⟨N_1, h, hS, le_1⟩
   unfold hocketref4_SameRows.J1 at H
   refine hKJ_2 _ _ <| qr <| sg h rfl fun a h=>wpList_nil ?_
   replace h : Fr 28 a [(4, .bool true)] := h.keep [4]
   refine x_then_n <| wp_ret ?_
   obtain rfl := Option.some.inj H
   exact r1 h 4 rfl rfl ⟨_, rfl, N_1, rfl, (hS.sel [0] (by decide))⟩
  clear hKJ_2
  refine c_block <| c_loop (fun k_1 a w_2 => ∃ (x_1 : Int) (N_2 : Mem), hocketref4_SameRows.L1 K x0 x1 (fun v => hocketref4_SameRows.J1 K) k_1 x_1 = some r ∧ Fr 28 a [(0, p0_0), (1, p1_1), (4, .bool false), (5, iV x_1)] ∧ Sep w0 w_2 [N_2] Z ∧ Mem.no.le N_2) K ⟨0, Mem.no, H, (h.to rfl), (hS.sel [0] (by decide)), mr⟩ (fun a w h => by obtain ⟨_, _, H, _⟩ := h; cases (show (none : Option (Bool)) = some r from H)) ?_
  clear h hS a H
  rintro k_1 a w_2 KL_1 hKL_1 ⟨x_1, N_2, H, h, hS, le_2⟩
  replace H : hocketref4_SameRows.B1 K x0 x1 (fun v => hocketref4_SameRows.J1 K) (hocketref4_SameRows.L1 K x0 x1 (fun v => hocketref4_SameRows.J1 K) k_1) x_1 = some r := H
  unfold hocketref4_SameRows.B1 at H
  refine c_seq fun KJ_3 hKJ_3 => qr <| mv h rfl fun a h=>mv h rfl fun a h=>s_len h rfl U28 rfl hp0_0 fun a h=>s_cmp (b := decide (x_1 < (x0.length : Int))) h rfl rfl rfl (.inr (.inr (.inl ⟨rfl, rfl⟩))) fun a h=>wpList_nil ?_
  replace h : Fr 28 a [(0, _), (1, _), (4, _), (5, _), (14, .bool (decide (x_1 < (x0.length : Int))))] := h.keep [0, 1, 4, 5, 14]
  refine x_then_n ?_
  obtain ⟨hc_2, H⟩ | ⟨hc_2, H⟩ := ii H
  ·refine c_cond_t h rfl (dt hc_2) <| wp_skip <| x_then_n (hKJ_3 _ _ ?_)
   refine c_seq fun KJ_4 hKJ_4 => c_block <| c_seq fun KJ_5 hKJ_5 => h_begin (S := fun w => Sep w0 w [N_2] Z) 11 (by kernel_rfl) rfl (bA 11 0) (by kernel_rfl) hS fun w_3 hS => ?_
   refine t_take 0 (bA 11 1) rfl rfl rfl rfl h (hS.sub .ii) (v := p0_0) (fun w hS => r_move h rfl) fun a h=>t_take 1 (bA 11 3) rfl rfl rfl rfl h (hS.sub .ii) (v := iV x_1) (fun w hS => r_move h rfl) fun a h=>?_
   obtain ⟨t_1, et_1, H⟩ := bs H
   refine t_takeE 2 (bA 11 7) rfl rfl rfl rfl h (hS.sub .ii) (f := fun ad => .pointer (some ad)) (r_index h U28 ti22 rfl rfl rfl hp0_0 et_1) ?_
   rintro ad_1 ⟨cs_1, hk_1, hc_3⟩
   obtain ⟨v_1, rfl, hr_1⟩ := hk_1
   intro a h
   refine t_take 3 (bA 11 15) rfl rfl rfl rfl h (hS.sub .ii) (v := v_1) (fun w hS => r_load h rfl (el_one (o := 0) (fun j c h => Mem.cell_le (hA.trans hS.old) (hc_3 j c h)) U22 rfl rfl)) fun a h=>t_take 4 (bA 11 31) rfl rfl rfl rfl h (hS.sub .ii) (v := .string ⟨t_1.toArray⟩) (fun w hS => r_b2s h U22 U5 U9 rfl hr_1 (hA.trans hS.old)) fun a h=>t_take 5 (bA 11 63) rfl rfl rfl rfl h (hS.sub .ii) (v := p1_1) (fun w hS => r_move h rfl) fun a h=>t_take 6 (bA 11 127) rfl rfl rfl rfl h (hS.sub .ii) (v := iV x_1) (fun w hS => r_move h rfl) fun a h=>?_
   obtain ⟨t_2, et_2, H⟩ := bs H
   refine t_takeE 7 (bA 11 255) rfl rfl rfl rfl h (hS.sub .ii) (f := fun ad => .pointer (some ad)) (r_index h U28 ti22 rfl rfl rfl hp1_1 et_2) ?_
   rintro ad_2 ⟨cs_2, hk_2, hc_4⟩
   obtain ⟨v_2, rfl, hr_2⟩ := hk_2
   intro a h
   refine t_take 8 (bA 11 511) rfl rfl rfl rfl h (hS.sub .ii) (v := v_2) (fun w hS => r_load h rfl (el_one (o := 0) (fun j c h => Mem.cell_le (hA.trans hS.old) (hc_4 j c h)) U22 rfl rfl)) fun a h=>t_take 9 (bA 11 1023) rfl rfl rfl rfl h (hS.sub .ii) (v := .string ⟨t_2.toArray⟩) (fun w hS => r_b2s h U22 U5 U9 rfl hr_2 (hA.trans hS.old)) fun a h=>t_take 10 (bA 11 2047) rfl rfl rfl rfl h (hS.sub .ii) (v := .bool (!(t_1 == t_2))) (fun w hS => r_strEq (b := !(t_1 == t_2)) h rfl rfl (.inr ⟨rfl, rfl⟩)) fun a h=>h_done (by kernel_rfl) <| x_then_n (hKJ_5 _ _ ?_)
   obtain ⟨hc_5, H⟩ | ⟨hc_5, H⟩ := ii H
   ·refine c_cond_f h rfl (nf (bt hc_5)) <| wp_skip <| x_block_n <| x_then_n (hKJ_4 _ _ ?_)
    refine wp_region_lit <| mv h rfl fun a h=>s_arith (r := w64 (x_1 + 1)) h rfl rfl rfl (.inl ⟨rfl, rfl⟩) fun a h=>sg h rfl fun a h=>wpList_nil <| x_then_n (hKL_1 _ _ ?_)
    exact ⟨w64 (x_1 + 1), N_2, H, (h.to rfl), (hS.sel [0] (by decide)), le_2⟩
   ·refine c_cond_t h rfl (nt (bf hc_5)) <| qr <| sg h rfl fun a h=>nx <| wp_ret (x_block_r (x_then_r (x_then_r (x_block_r (x_then_r ?_)))))
    obtain rfl := Option.some.inj H
    exact r1 h 4 rfl rfl ⟨_, rfl, N_2, rfl, (hS.sel [0] (by decide))⟩
  ·refine c_cond_f h rfl (df hc_2) <| wp_exit (x_then_x (x_then_x (x_block_t ?_)))
   exact x_then_n (hJ_j_1  H _ _ ⟨N_2, (h.to rfl), (hS.sel [0] (by decide)), le_2⟩)
 ·refine c_cond_t h rfl (xt hc_1) <| qr <| sg h rfl fun a h=>nx <| wp_ret (x_then_r ?_)
  obtain rfl := Option.some.inj H
  exact r1 h 4 rfl rfl ⟨_, rfl, Mem.no, rfl, (hS.sel [0] (by decide))⟩

set_option maxHeartbeats 4000000 in
set_option maxRecDepth 20000 in
theorem hocketref1_SameInts.calls (K : Nat) (x0 : List Int) (p0_0 : Value) (x1 : List Int) (p1_1 : Value) (r : Bool) (w0 w : World) (Z A : Mem) (hA : A.le Z) (hS : Sep w0 w [] Z) (hp0_0 : Rd (Kd.int .i64) A p0_0 x0) (hp1_1 : Rd (Kd.int .i64) A p1_1 x1)
    (H : hocketref1_SameInts.f K x0 x1 = some r) :
    Calls Try.prog 66 [p0_0, p1_1].toArray w (Ret fun v w' => ∃ (N : Mem), v = .bool r ∧ Sep w0 w' [N] Z) := by
 unfold hocketref1_SameInts.f at H
 refine f_enter _ Try.func66 rfl Try.ntmps66 rfl fun a h=>?_
 replace h : Fr 26 a [(0, p0_0), (1, p1_1)] := h
 replace hS := hS.start
 refine qr <| sg h rfl fun a h=>nx <| c_seq fun KJ_1 hKJ_1 => qr <| mv h rfl fun a h=>s_len h rfl U29 rfl hp0_0 fun a h=>mv h rfl fun a h=>s_len h rfl U29 rfl hp1_1 fun a h=>?_
 refine s_cmp (b := ((x0.length : Int) != (x1.length : Int))) h rfl rfl rfl (.inr (.inl ⟨rfl, rfl⟩)) fun a h=>wpList_nil <| x_then_n ?_
 obtain ⟨hc_1, H⟩ | ⟨hc_1, H⟩ := ii H
 ·refine c_cond_f h rfl (xf hc_1) <| wp_skip <| x_then_n (hKJ_1 _ _ ?_)
  refine c_seq fun KJ_2 hKJ_2 => qr <| sg h rfl fun a h=>wpList_nil <| x_then_n ?_
  have hJ_j_1 : hocketref1_SameInts.J1 K = some r → ∀ (a : Act) (w_1 : World), (∃ (N_1 : Mem), Fr 26 a [(4, .bool false)] ∧ Sep w0 w_1 [N_1] Z ∧ Mem.no.le N_1) → KJ_2 a w_1 := by
   clear H h hS a
   rintro H a w_1 ⟨N_1, h, hS, le_1⟩
   unfold hocketref1_SameInts.J1 at H
   refine hKJ_2 _ _ <| qr <| sg h rfl fun a h=>wpList_nil ?_
   replace h : Fr 26 a [(4, .bool true)] := h.keep [4]
   refine x_then_n <| wp_ret ?_
   obtain rfl := Option.some.inj H
   exact r1 h 4 rfl rfl ⟨_, rfl, N_1, rfl, (hS.sel [0] (by decide))⟩
  clear hKJ_2
  refine c_block <| c_loop (fun k_1 a w_2 => ∃ (x_1 : Int) (N_2 : Mem), hocketref1_SameInts.L1 K x0 x1 (fun v => hocketref1_SameInts.J1 K) k_1 x_1 = some r ∧ Fr 26 a [(0, p0_0), (1, p1_1), (4, .bool false), (5, iV x_1)] ∧ Sep w0 w_2 [N_2] Z ∧ Mem.no.le N_2) K ⟨0, Mem.no, H, (h.to rfl), (hS.sel [0] (by decide)), mr⟩ (fun a w h => by obtain ⟨_, _, H, _⟩ := h; cases (show (none : Option (Bool)) = some r from H)) ?_
  clear h hS a H
  rintro k_1 a w_2 KL_1 hKL_1 ⟨x_1, N_2, H, h, hS, le_2⟩
  replace H : hocketref1_SameInts.B1 K x0 x1 (fun v => hocketref1_SameInts.J1 K) (hocketref1_SameInts.L1 K x0 x1 (fun v => hocketref1_SameInts.J1 K) k_1) x_1 = some r := H
  unfold hocketref1_SameInts.B1 at H
  refine c_seq fun KJ_3 hKJ_3 => qr <| mv h rfl fun a h=>mv h rfl fun a h=>s_len h rfl U29 rfl hp0_0 fun a h=>s_cmp (b := decide (x_1 < (x0.length : Int))) h rfl rfl rfl (.inr (.inr (.inl ⟨rfl, rfl⟩))) fun a h=>wpList_nil ?_
  replace h : Fr 26 a [(0, _), (1, _), (4, _), (5, _), (14, .bool (decide (x_1 < (x0.length : Int))))] := h.keep [0, 1, 4, 5, 14]
  refine x_then_n ?_
  obtain ⟨hc_2, H⟩ | ⟨hc_2, H⟩ := ii H
  ·refine c_cond_t h rfl (dt hc_2) <| wp_skip <| x_then_n (hKJ_3 _ _ ?_)
   refine c_seq fun KJ_4 hKJ_4 => c_block <| c_seq fun KJ_5 hKJ_5 => h_begin (S := fun w => Sep w0 w [N_2] Z) 9 (by kernel_rfl) rfl (bA 9 0) (by kernel_rfl) hS fun w_3 hS => ?_
   refine t_take 0 (bA 9 1) rfl rfl rfl rfl h (hS.sub .ii) (v := p0_0) (fun w hS => r_move h rfl) fun a h=>t_take 1 (bA 9 3) rfl rfl rfl rfl h (hS.sub .ii) (v := iV x_1) (fun w hS => r_move h rfl) fun a h=>?_
   obtain ⟨t_1, et_1, H⟩ := bs H
   refine t_takeE 2 (bA 9 7) rfl rfl rfl rfl h (hS.sub .ii) (f := fun ad => .pointer (some ad)) (r_index h U29 ti3 rfl rfl rfl hp0_0 et_1) ?_
   rintro ad_1 ⟨cs_1, hk_1, hc_3⟩
   obtain rfl := (show cs_1 = [iV t_1] from hk_1)
   intro a h
   refine t_take 3 (bA 9 15) rfl rfl rfl rfl h (hS.sub .ii) (v := iV t_1) (fun w hS => r_load h rfl (el_one (o := 0) (fun j c h => Mem.cell_le (hA.trans hS.old) (hc_3 j c h)) U3 rfl rfl)) fun a h=>t_take 4 (bA 9 31) rfl rfl rfl rfl h (hS.sub .ii) (v := p1_1) (fun w hS => r_move h rfl) fun a h=>t_take 5 (bA 9 63) rfl rfl rfl rfl h (hS.sub .ii) (v := iV x_1) (fun w hS => r_move h rfl) fun a h=>?_
   obtain ⟨t_2, et_2, H⟩ := bs H
   refine t_takeE 6 (bA 9 127) rfl rfl rfl rfl h (hS.sub .ii) (f := fun ad => .pointer (some ad)) (r_index h U29 ti3 rfl rfl rfl hp1_1 et_2) ?_
   rintro ad_2 ⟨cs_2, hk_2, hc_4⟩
   obtain rfl := (show cs_2 = [iV t_2] from hk_2)
   intro a h
   refine t_take 7 (bA 9 255) rfl rfl rfl rfl h (hS.sub .ii) (v := iV t_2) (fun w hS => r_load h rfl (el_one (o := 0) (fun j c h => Mem.cell_le (hA.trans hS.old) (hc_4 j c h)) U3 rfl rfl)) fun a h=>t_take 8 (bA 9 511) rfl rfl rfl rfl h (hS.sub .ii) (v := .bool (t_1 != t_2)) (fun w hS => r_cmp (b := (t_1 != t_2)) h rfl rfl (.inr (.inl ⟨rfl, rfl⟩))) fun a h=>h_done (by kernel_rfl) <| x_then_n (hKJ_5 _ _ ?_)
   obtain ⟨hc_5, H⟩ | ⟨hc_5, H⟩ := ii H
   ·refine c_cond_f h rfl (xf hc_5) <| wp_skip <| x_block_n <| x_then_n (hKJ_4 _ _ ?_)
    refine wp_region_lit <| mv h rfl fun a h=>s_arith (r := w64 (x_1 + 1)) h rfl rfl rfl (.inl ⟨rfl, rfl⟩) fun a h=>sg h rfl fun a h=>wpList_nil <| x_then_n (hKL_1 _ _ ?_)
    exact ⟨w64 (x_1 + 1), N_2, H, (h.to rfl), (hS.sel [0] (by decide)), le_2⟩
   ·refine c_cond_t h rfl (xt hc_5) <| qr <| sg h rfl fun a h=>nx <| wp_ret (x_block_r (x_then_r (x_then_r (x_block_r (x_then_r ?_)))))
    obtain rfl := Option.some.inj H
    exact r1 h 4 rfl rfl ⟨_, rfl, N_2, rfl, (hS.sel [0] (by decide))⟩
  ·refine c_cond_f h rfl (df hc_2) <| wp_exit (x_then_x (x_then_x (x_block_t ?_)))
   exact x_then_n (hJ_j_1  H _ _ ⟨N_2, (h.to rfl), (hS.sel [0] (by decide)), le_2⟩)
 ·refine c_cond_t h rfl (xt hc_1) <| qr <| sg h rfl fun a h=>nx <| wp_ret (x_then_r ?_)
  obtain rfl := Option.some.inj H
  exact r1 h 4 rfl rfl ⟨_, rfl, Mem.no, rfl, (hS.sel [0] (by decide))⟩

set_option maxHeartbeats 4000000 in
set_option maxRecDepth 20000 in
theorem hocketref4_SamePairs.calls (K : Nat) (x0 : List api_Pair) (p0_0 : Value) (x1 : List api_Pair) (p1_1 : Value) (r : Bool) (w0 w : World) (Z A : Mem) (hA : A.le Z) (hS : Sep w0 w [] Z) (hp0_0 : Rd k_api_Pair A p0_0 x0) (hp1_1 : Rd k_api_Pair A p1_1 x1)
    (H : hocketref4_SamePairs.f K x0 x1 = some r) :
    Calls Try.prog 67 [p0_0, p1_1].toArray w (Ret fun v w' => ∃ (N : Mem), v = .bool r ∧ Sep w0 w' [N] Z) := by
 unfold hocketref4_SamePairs.f at H
 refine f_enter _ Try.func67 rfl Try.ntmps67 rfl fun a h=>?_
 replace h : Fr 45 a [(0, p0_0), (1, p1_1)] := h
 replace hS := hS.start
 refine qr <| sg h rfl fun a h=>nx <| c_seq fun KJ_1 hKJ_1 => qr <| mv h rfl fun a h=>s_len h rfl U30 rfl hp0_0 fun a h=>mv h rfl fun a h=>s_len h rfl U30 rfl hp1_1 fun a h=>?_
 refine s_cmp (b := ((x0.length : Int) != (x1.length : Int))) h rfl rfl rfl (.inr (.inl ⟨rfl, rfl⟩)) fun a h=>wpList_nil <| x_then_n ?_
 obtain ⟨hc_1, H⟩ | ⟨hc_1, H⟩ := ii H
 ·refine c_cond_f h rfl (xf hc_1) <| wp_skip <| x_then_n (hKJ_1 _ _ ?_)
  refine c_seq fun KJ_2 hKJ_2 => qr <| sg h rfl fun a h=>wpList_nil <| x_then_n ?_
  have hJ_j_1 : hocketref4_SamePairs.J1 K = some r → ∀ (a : Act) (w_1 : World), (∃ (N_1 : Mem), Fr 45 a [(4, .bool false)] ∧ Sep w0 w_1 [N_1] Z ∧ Mem.no.le N_1) → KJ_2 a w_1 := by
   clear H h hS a
   rintro H a w_1 ⟨N_1, h, hS, le_1⟩
   unfold hocketref4_SamePairs.J1 at H
   refine hKJ_2 _ _ <| qr <| sg h rfl fun a h=>wpList_nil ?_
   replace h : Fr 45 a [(4, .bool true)] := h.keep [4]
   refine x_then_n <| wp_ret ?_
   obtain rfl := Option.some.inj H
   exact r1 h 4 rfl rfl ⟨_, rfl, N_1, rfl, (hS.sel [0] (by decide))⟩
  clear hKJ_2
  refine c_block <| c_loop (fun k_1 a w_2 => ∃ (x_1 : Int) (N_2 : Mem), hocketref4_SamePairs.L1 K x0 x1 (fun v => hocketref4_SamePairs.J1 K) k_1 x_1 = some r ∧ Fr 45 a [(0, p0_0), (1, p1_1), (4, .bool false), (5, iV x_1)] ∧ Sep w0 w_2 [N_2] Z ∧ Mem.no.le N_2) K ⟨0, Mem.no, H, (h.to rfl), (hS.sel [0] (by decide)), mr⟩ (fun a w h => by obtain ⟨_, _, H, _⟩ := h; cases (show (none : Option (Bool)) = some r from H)) ?_
  clear h hS a H
  rintro k_1 a w_2 KL_1 hKL_1 ⟨x_1, N_2, H, h, hS, le_2⟩
  replace H : hocketref4_SamePairs.B1 K x0 x1 (fun v => hocketref4_SamePairs.J1 K) (hocketref4_SamePairs.L1 K x0 x1 (fun v => hocketref4_SamePairs.J1 K) k_1) x_1 = some r := H
  unfold hocketref4_SamePairs.B1 at H
  refine c_seq fun KJ_3 hKJ_3 => qr <| mv h rfl fun a h=>mv h rfl fun a h=>s_len h rfl U30 rfl hp0_0 fun a h=>s_cmp (b := decide (x_1 < (x0.length : Int))) h rfl rfl rfl (.inr (.inr (.inl ⟨rfl, rfl⟩))) fun a h=>wpList_nil ?_
  replace h : Fr 45 a [(0, _), (1, _), (4, _), (5, _), (14, .bool (decide (x_1 < (x0.length : Int))))] := h.keep [0, 1, 4, 5, 14]
  refine x_then_n ?_
  obtain ⟨hc_2, H⟩ | ⟨hc_2, H⟩ := ii H
  ·refine c_cond_t h rfl (dt hc_2) <| wp_skip <| x_then_n (hKJ_3 _ _ ?_)
   refine c_seq fun KJ_4 hKJ_4 => c_block <| c_seq fun KJ_5 hKJ_5 => ?_
   have hJ_j_2 : ∀ (x_2 : Bool), hocketref4_SamePairs.J2 K (hocketref4_SamePairs.L1 K x0 x1 (fun v => hocketref4_SamePairs.J1 K) k_1) x_1 x_2 = some r → ∀ (a : Act) (w_3 : World), (∃ (N_3 : Mem), Fr 45 a [(0, p0_0), (1, p1_1), (4, .bool false), (5, iV x_1), (44, .bool x_2)] ∧ Sep w0 w_3 [N_3] Z ∧ N_2.le N_3) → KJ_5 a w_3 := by
    clear H h hS a
    rintro x_2 H a w_3 ⟨N_3, h, hS, le_3⟩
    unfold hocketref4_SamePairs.J2 at H
    refine hKJ_5 _ _ ?_
    obtain ⟨hc_3, H⟩ | ⟨hc_3, H⟩ := ii H
    ·refine c_cond_t h rfl hc_3 <| qr <| sg h rfl fun a h=>nx <| wp_ret (x_block_r (x_then_r (x_then_r (x_block_r (x_then_r ?_)))))
     obtain rfl := Option.some.inj H
     exact r1 h 4 rfl rfl ⟨_, rfl, N_3, rfl, (hS.sel [0] (by decide))⟩
    ·refine c_cond_f h rfl (ef hc_3) <| wp_skip <| x_block_n <| x_then_n (hKJ_4 _ _ ?_)
     refine wp_region_lit <| mv h rfl fun a h=>s_arith (r := w64 (x_1 + 1)) h rfl rfl rfl (.inl ⟨rfl, rfl⟩) fun a h=>sg h rfl fun a h=>wpList_nil <| x_then_n (hKL_1 _ _ ?_)
     exact ⟨w64 (x_1 + 1), N_3, H, (h.to rfl), (hS.sel [0] (by decide)), (le_2.trans le_3)⟩
   clear hKJ_5
   refine h_begin (S := fun w => Sep w0 w [N_2] Z) 28 (by kernel_rfl) rfl (bA 28 0) (by kernel_rfl) hS fun w_4 hS => ?_
   refine t_take 0 (bA 28 1) rfl rfl rfl rfl h (hS.sub .ii) (v := p0_0) (fun w hS => r_move h rfl) fun a h=>t_take 1 (bA 28 3) rfl rfl rfl rfl h (hS.sub .ii) (v := iV x_1) (fun w hS => r_move h rfl) fun a h=>?_
   obtain ⟨t_1, et_1, H⟩ := bs H
   refine t_takeE 2 (bA 28 7) rfl rfl rfl rfl h (hS.sub .ii) (f := fun ad => .pointer (some ad)) (r_index h U30 ti88 rfl rfl rfl hp0_0 et_1) ?_
   rintro ad_1 ⟨cs_1, hk_1, hc_4⟩
   obtain ⟨v_1, v_2, rfl, hr_1, hr_2⟩ := k_api_Pair.open' hk_1
   intro a h
   refine t_take 3 (bA 28 15) rfl rfl rfl rfl h (hS.sub .ii) (v := .pointer (some (ad_1.add 0))) (fun w hS => r_fieldAddr h U88 rfl ti22 rfl rfl rfl) fun a h=>t_take 4 (bA 28 31) rfl rfl rfl rfl h (hS.sub .ii) (v := v_1) (fun w hS => r_load h rfl (el_one (o := 0) (fun j c h => Mem.cell_le (hA.trans hS.old) (hc_4 j c h)) U22 rfl rfl)) fun a h=>t_take 5 (bA 28 63) rfl rfl rfl rfl h (hS.sub .ii) (v := .string ⟨t_1.Key.toArray⟩) (fun w hS => r_b2s h U22 U5 U9 rfl hr_1 (hA.trans hS.old)) fun a h=>t_take 6 (bA 28 127) rfl rfl rfl rfl h (hS.sub .ii) (v := p1_1) (fun w hS => r_move h rfl) fun a h=>t_take 7 (bA 28 255) rfl rfl rfl rfl h (hS.sub .ii) (v := iV x_1) (fun w hS => r_move h rfl) fun a h=>?_
   obtain ⟨t_2, et_2, H⟩ := bs H
   refine t_takeE 8 (bA 28 511) rfl rfl rfl rfl h (hS.sub .ii) (f := fun ad => .pointer (some ad)) (r_index h U30 ti88 rfl rfl rfl hp1_1 et_2) ?_
   rintro ad_2 ⟨cs_2, hk_2, hc_5⟩
   obtain ⟨v_3, v_4, rfl, hr_3, hr_4⟩ := k_api_Pair.open' hk_2
   intro a h
   refine t_take 9 (bA 28 1023) rfl rfl rfl rfl h (hS.sub .ii) (v := .pointer (some (ad_2.add 0))) (fun w hS => r_fieldAddr h U88 rfl ti22 rfl rfl rfl) fun a h=>t_take 10 (bA 28 2047) rfl rfl rfl rfl h (hS.sub .ii) (v := v_3) (fun w hS => r_load h rfl (el_one (o := 0) (fun j c h => Mem.cell_le (hA.trans hS.old) (hc_5 j c h)) U22 rfl rfl)) fun a h=>t_take 11 (bA 28 4095) rfl rfl rfl rfl h (hS.sub .ii) (v := .string ⟨t_2.Key.toArray⟩) (fun w hS => r_b2s h U22 U5 U9 rfl hr_3 (hA.trans hS.old)) fun a h=>t_take 12 (bA 28 8191) rfl rfl rfl rfl h (hS.sub .ii) (v := .bool (!(t_1.Key == t_2.Key))) (fun w hS => r_strEq (b := !(t_1.Key == t_2.Key)) h rfl rfl (.inr ⟨rfl, rfl⟩)) fun a h=>t_take 13 (bA 28 16383) rfl rfl rfl rfl h (hS.sub .ii) (v := .bool (!(t_1.Key == t_2.Key))) (fun w hS => r_move h rfl) fun a h=>?_
   obtain ⟨hc_6, H⟩ | ⟨hc_6, H⟩ := ii H
   ·refine t_take_on 14 (bA 28 32767) rfl rfl rfl rfl (nf (bt hc_6)) rfl rfl h (hS.sub .ii) (v := p0_0) (fun w hS => r_move h rfl) fun a h=>t_take_on 15 (bA 28 65535) rfl rfl rfl rfl (nf (bt hc_6)) rfl rfl h (hS.sub .ii) (v := iV x_1) (fun w hS => r_move h rfl) fun a h=>?_
    obtain ⟨t_3, et_3, H⟩ := bs H
    refine t_takeE_on 16 (bA 28 131071) rfl rfl rfl rfl (nf (bt hc_6)) rfl rfl h (hS.sub .ii) (f := fun ad => .pointer (some ad)) (r_index h U30 ti88 rfl rfl rfl hp0_0 et_3) ?_
    rintro ad_3 ⟨cs_3, hk_3, hc_7⟩
    obtain ⟨v_5, v_6, rfl, hr_5, hr_6⟩ := k_api_Pair.open' hk_3
    intro a h
    refine t_take_on 17 (bA 28 262143) rfl rfl rfl rfl (nf (bt hc_6)) rfl rfl h (hS.sub .ii) (v := .pointer (some (ad_3.add 1))) (fun w hS => r_fieldAddr h U88 rfl ti22 rfl rfl rfl) fun a h=>t_take_on 18 (bA 28 524287) rfl rfl rfl rfl (nf (bt hc_6)) rfl rfl h (hS.sub .ii) (v := v_6) (fun w hS => r_load h rfl (el_one (o := 1) (fun j c h => Mem.cell_le (hA.trans hS.old) (hc_7 j c h)) U22 rfl rfl)) fun a h=>t_take_on 19 (bA 28 1048575) rfl rfl rfl rfl (nf (bt hc_6)) rfl rfl h (hS.sub .ii) (v := .string ⟨t_3.Val.toArray⟩) (fun w hS => r_b2s h U22 U5 U9 rfl hr_6 (hA.trans hS.old)) fun a h=>t_take_on 20 (bA 28 2097151) rfl rfl rfl rfl (nf (bt hc_6)) rfl rfl h (hS.sub .ii) (v := p1_1) (fun w hS => r_move h rfl) fun a h=>t_take_on 21 (bA 28 4194303) rfl rfl rfl rfl (nf (bt hc_6)) rfl rfl h (hS.sub .ii) (v := iV x_1) (fun w hS => r_move h rfl) fun a h=>?_
    obtain ⟨t_4, et_4, H⟩ := bs H
    refine t_takeE_on 22 (bA 28 8388607) rfl rfl rfl rfl (nf (bt hc_6)) rfl rfl h (hS.sub .ii) (f := fun ad => .pointer (some ad)) (r_index h U30 ti88 rfl rfl rfl hp1_1 et_4) ?_
    rintro ad_4 ⟨cs_4, hk_4, hc_8⟩
    obtain ⟨v_7, v_8, rfl, hr_7, hr_8⟩ := k_api_Pair.open' hk_4
    intro a h
    refine t_take_on 23 (bA 28 16777215) rfl rfl rfl rfl (nf (bt hc_6)) rfl rfl h (hS.sub .ii) (v := .pointer (some (ad_4.add 1))) (fun w hS => r_fieldAddr h U88 rfl ti22 rfl rfl rfl) fun a h=>t_take_on 24 (bA 28 33554431) rfl rfl rfl rfl (nf (bt hc_6)) rfl rfl h (hS.sub .ii) (v := v_8) (fun w hS => r_load h rfl (el_one (o := 1) (fun j c h => Mem.cell_le (hA.trans hS.old) (hc_8 j c h)) U22 rfl rfl)) fun a h=>t_take_on 25 (bA 28 67108863) rfl rfl rfl rfl (nf (bt hc_6)) rfl rfl h (hS.sub .ii) (v := .string ⟨t_4.Val.toArray⟩) (fun w hS => r_b2s h U22 U5 U9 rfl hr_8 (hA.trans hS.old)) fun a h=>t_take_on 26 (bA 28 134217727) rfl rfl rfl rfl (nf (bt hc_6)) rfl rfl h (hS.sub .ii) (v := .bool (!(t_3.Val == t_4.Val))) (fun w hS => r_strEq (b := !(t_3.Val == t_4.Val)) h rfl rfl (.inr ⟨rfl, rfl⟩)) fun a h=>t_take 27 (bA 28 268435455) rfl rfl rfl rfl h (hS.sub .ii) (v := .bool (!(t_3.Val == t_4.Val))) (fun w hS => r_pick_f h rfl (nf (bt hc_6)) rfl) fun a h=>h_done (by kernel_rfl) ?_
    exact x_then_n (hJ_j_2 (!(t_3.Val == t_4.Val)) H _ _ ⟨N_2, (h.to rfl), (hS.sel [0] (by decide)), mr⟩)
   ·refine t_take_off 14 (bA 28 32767) rfl rfl rfl rfl (.inl (congrArg Value.bool (nt (bf hc_6)))) rfl rfl h (hS.sub .ii) fun a h=>t_take_off 15 (bA 28 65535) rfl rfl rfl rfl (.inl (congrArg Value.bool (nt (bf hc_6)))) rfl rfl h (hS.sub .ii) fun a h=>t_take_off 16 (bA 28 131071) rfl rfl rfl rfl (.inl (congrArg Value.bool (nt (bf hc_6)))) rfl rfl h (hS.sub .ii) fun a h=>t_take_off 17 (bA 28 262143) rfl rfl rfl rfl (.inl (congrArg Value.bool (nt (bf hc_6)))) rfl rfl h (hS.sub .ii) fun a h=>t_take_off 18 (bA 28 524287) rfl rfl rfl rfl (.inl (congrArg Value.bool (nt (bf hc_6)))) rfl rfl h (hS.sub .ii) fun a h=>t_take_off 19 (bA 28 1048575) rfl rfl rfl rfl (.inl (congrArg Value.bool (nt (bf hc_6)))) rfl rfl h (hS.sub .ii) fun a h=>t_take_off 20 (bA 28 2097151) rfl rfl rfl rfl (.inl (congrArg Value.bool (nt (bf hc_6)))) rfl rfl h (hS.sub .ii) fun a h=>t_take_off 21 (bA 28 4194303) rfl rfl rfl rfl (.inl (congrArg Value.bool (nt (bf hc_6)))) rfl rfl h (hS.sub .ii) fun a h=>t_take_off 22 (bA 28 8388607) rfl rfl rfl rfl (.inl (congrArg Value.bool (nt (bf hc_6)))) rfl rfl h (hS.sub .ii) fun a h=>?_
    refine t_take_off 23 (bA 28 16777215) rfl rfl rfl rfl (.inl (congrArg Value.bool (nt (bf hc_6)))) rfl rfl h (hS.sub .ii) fun a h=>t_take_off 24 (bA 28 33554431) rfl rfl rfl rfl (.inl (congrArg Value.bool (nt (bf hc_6)))) rfl rfl h (hS.sub .ii) fun a h=>t_take_off 25 (bA 28 67108863) rfl rfl rfl rfl (.inl (congrArg Value.bool (nt (bf hc_6)))) rfl rfl h (hS.sub .ii) fun a h=>t_take_off 26 (bA 28 134217727) rfl rfl rfl rfl (.inl (congrArg Value.bool (nt (bf hc_6)))) rfl rfl h (hS.sub .ii) fun a h=>t_take 27 (bA 28 268435455) rfl rfl rfl rfl h (hS.sub .ii) (v := .bool true) (fun w hS => r_pick_t h rfl (nt (bf hc_6)) rfl) fun a h=>h_done (by kernel_rfl) ?_
    exact x_then_n (hJ_j_2 true H _ _ ⟨N_2, (h.to rfl), (hS.sel [0] (by decide)), mr⟩)
  ·refine c_cond_f h rfl (df hc_2) <| wp_exit (x_then_x (x_then_x (x_block_t ?_)))
   exact x_then_n (hJ_j_1  H _ _ ⟨N_2, (h.to rfl), (hS.sel [0] (by decide)), le_2⟩)
 ·refine c_cond_t h rfl (xt hc_1) <| qr <| sg h rfl fun a h=>nx <| wp_ret (x_then_r ?_)
  obtain rfl := Option.some.inj H
  exact r1 h 4 rfl rfl ⟨_, rfl, Mem.no, rfl, (hS.sel [0] (by decide))⟩

set_option maxHeartbeats 4000000 in
set_option maxRecDepth 20000 in
theorem hocketref4_SameObjects.calls (K : Nat) (x0 : api_Objects) (p0_0 : Value) (p0_1 : Value) (p0_2 : Value) (p0_3 : Value) (x1 : api_Objects) (p1_4 : Value) (p1_5 : Value) (p1_6 : Value) (p1_7 : Value) (r : Bool) (w0 w : World) (Z A : Mem) (hA : A.le Z) (hS : Sep w0 w [] Z) (hp0_0 : Rd Kd.u8 A p0_0 x0.Reg) (hp0_1 : Rd (Kd.slice Kd.u8) A p0_1 x0.Queue) (hp0_2 : Rd (Kd.int .i64) A p0_2 x0.Lock) (hp0_3 : Rd k_api_Pair A p0_3 x0.Map) (hp1_4 : Rd Kd.u8 A p1_4 x1.Reg) (hp1_5 : Rd (Kd.slice Kd.u8) A p1_5 x1.Queue) (hp1_6 : Rd (Kd.int .i64) A p1_6 x1.Lock) (hp1_7 : Rd k_api_Pair A p1_7 x1.Map)
    (H : hocketref4_SameObjects.f K x0 x1 = some r) :
    Calls Try.prog 43 [.agg ([p0_0, p0_1, p0_2, p0_3] : List Value).toArray, .agg ([p1_4, p1_5, p1_6, p1_7] : List Value).toArray].toArray w (Ret fun v w' => ∃ (N : Mem), v = .bool r ∧ Sep w0 w' [N] Z) := by
 unfold hocketref4_SameObjects.f at H
 refine f_enter _ Try.func43 rfl Try.ntmps43 rfl fun a h=>?_
 replace h : Fr 33 a [(0, .agg ([p0_0, p0_1, p0_2, p0_3] : List Value).toArray), (1, .agg ([p1_4, p1_5, p1_6, p1_7] : List Value).toArray)] := h
 replace hS := hS.start
 refine qr <| v_box (vs := [p0_0, p0_1, p0_2, p0_3]) h rfl rfl rfl hS fun w_1 g_1 hS' a h => ?_
 replace hS : Sep w0 w_1 [_, bx g_1 32 [p0_0, p0_1, p0_2, p0_3]] Z := hS'
 refine v_box (vs := [p1_4, p1_5, p1_6, p1_7]) h rfl rfl rfl hS fun w_2 g_2 hS' a h => ?_
 replace hS : Sep w0 w_2 [_, _, bx g_2 32 [p1_4, p1_5, p1_6, p1_7]] Z := hS'
 refine sg h rfl fun a h=>nx <| c_seq fun KJ_1 hKJ_1 => wp_region_lit <| s_fieldAddr h rfl U32 rfl ti22 rfl rfl fun a h=>s_load h rfl rfl (hS.load_one (p := 1) rfl U22 rfl rfl) fun a h=>s_b2s h rfl U22 U5 U9 rfl hp0_0 (hA.trans hS.old) fun a h=>s_fieldAddr h rfl U32 rfl ti22 rfl rfl fun a h=>s_load h rfl rfl (hS.load_one (p := 2) rfl U22 rfl rfl) fun a h=>s_b2s h rfl U22 U5 U9 rfl hp1_4 (hA.trans hS.old) fun a h=>s_strEq (b := (x0.Reg == x1.Reg)) h rfl rfl rfl (.inl ⟨rfl, rfl⟩) fun a h=>?_
 refine mv h rfl fun a h=>?_
 obtain ⟨hc_1, H⟩ | ⟨hc_1, H⟩ := ii H
 ·refine s_on h rfl rfl (bt hc_1) <| s_fieldAddr h rfl U32 rfl ti28 rfl rfl fun a h=>s_on h rfl rfl (bt hc_1) <| s_load h rfl rfl (hS.load_one (p := 1) rfl U28 rfl rfl) fun a h=>s_on h rfl rfl (bt hc_1) <| s_fieldAddr h rfl U32 rfl ti28 rfl rfl fun a h=>s_on h rfl rfl (bt hc_1) <| s_load h rfl rfl (hS.load_one (p := 2) rfl U28 rfl rfl) fun a h=>s_on h rfl rfl (bt hc_1) ?_
  obtain ⟨t_1, et_1, H⟩ := bs H
  refine s_call h rfl Try.call65 rfl (hocketref4_SameRows.calls K x0.Queue _ x1.Queue _ t_1 w0 _ _ _ mr (hS.enter [] (by decide)) (hp0_1.mono (hA.trans (hS.le_zed []))) (hp1_5.mono (hA.trans (hS.le_zed []))) et_1) ?_
  rintro _ w_3 ⟨N_1, rfl, hS'⟩
  intro a h
  obtain ⟨N_2, hS'', le_1, ln_1⟩ := hS.call [] (by decide) rfl (l' := []) (ow := []) rfl hS'
  replace hS : Sep w0 w_3 [N_2, _, _] Z := hS''
  refine pt h rfl (bt hc_1) fun a h=>mv h rfl fun a h=>?_
  obtain ⟨hc_2, H⟩ | ⟨hc_2, H⟩ := ii H
  ·refine s_on h rfl rfl hc_2 <| s_fieldAddr h rfl U32 rfl ti29 rfl rfl fun a h=>s_on h rfl rfl hc_2 <| s_load h rfl rfl (hS.load_one (p := 1) rfl U29 rfl rfl) fun a h=>s_on h rfl rfl hc_2 <| s_fieldAddr h rfl U32 rfl ti29 rfl rfl fun a h=>s_on h rfl rfl hc_2 <| s_load h rfl rfl (hS.load_one (p := 2) rfl U29 rfl rfl) fun a h=>s_on h rfl rfl hc_2 ?_
   obtain ⟨t_2, et_2, H⟩ := bs H
   refine s_call h rfl Try.call66 rfl (hocketref1_SameInts.calls K x0.Lock _ x1.Lock _ t_2 w0 _ _ _ mr (hS.enter [] (by decide)) (hp0_2.mono (hA.trans (hS.le_zed []))) (hp1_6.mono (hA.trans (hS.le_zed []))) et_2) ?_
   rintro _ w_4 ⟨N_3, rfl, hS'⟩
   intro a h
   obtain ⟨N_4, hS'', le_2, ln_2⟩ := hS.call [] (by decide) rfl (l' := []) (ow := []) rfl hS'
   replace hS : Sep w0 w_4 [N_4, _, _] Z := hS''
   refine pt h rfl hc_2 fun a h=>mv h rfl fun a h=>?_
   obtain ⟨hc_3, H⟩ | ⟨hc_3, H⟩ := ii H
   ·refine s_on h rfl rfl hc_3 <| s_fieldAddr h rfl U32 rfl ti30 rfl rfl fun a h=>s_on h rfl rfl hc_3 <| s_load h rfl rfl (hS.load_one (p := 1) rfl U30 rfl rfl) fun a h=>s_on h rfl rfl hc_3 <| s_fieldAddr h rfl U32 rfl ti30 rfl rfl fun a h=>s_on h rfl rfl hc_3 <| s_load h rfl rfl (hS.load_one (p := 2) rfl U30 rfl rfl) fun a h=>s_on h rfl rfl hc_3 ?_
    obtain ⟨t_3, et_3, H⟩ := bs H
    refine s_call h rfl Try.call67 rfl (hocketref4_SamePairs.calls K x0.Map _ x1.Map _ t_3 w0 _ _ _ mr (hS.enter [] (by decide)) (hp0_3.mono (hA.trans (hS.le_zed []))) (hp1_7.mono (hA.trans (hS.le_zed []))) et_3) ?_
    rintro _ w_5 ⟨N_5, rfl, hS'⟩
    intro a h
    obtain ⟨N_6, hS'', le_3, ln_3⟩ := hS.call [] (by decide) rfl (l' := []) (ow := []) rfl hS'
    replace hS : Sep w0 w_5 [N_6, _, _] Z := hS''
    refine pt h rfl hc_3 fun a h=>sg h rfl fun a h=>wpList_nil <| x_then_n (hKJ_1 _ _ ?_)
    refine wp_ret ?_
    obtain rfl := Option.some.inj H
    exact r1 h 4 rfl rfl ⟨_, rfl, N_6, rfl, (hS.sel [0] (by decide))⟩
   ·refine of h rfl rfl (ef hc_3) fun a h=>of h rfl rfl (ef hc_3) fun a h=>of h rfl rfl (ef hc_3) fun a h=>of h rfl rfl (ef hc_3) fun a h=>of h rfl rfl (ef hc_3) fun a h=>pf h rfl (ef hc_3) fun a h=>sg h rfl fun a h=>wpList_nil <| x_then_n (hKJ_1 _ _ ?_)
    refine wp_ret ?_
    obtain rfl := Option.some.inj H
    exact r1 h 4 rfl rfl ⟨_, rfl, N_4, rfl, (hS.sel [0] (by decide))⟩
  ·refine of h rfl rfl (ef hc_2) fun a h=>of h rfl rfl (ef hc_2) fun a h=>of h rfl rfl (ef hc_2) fun a h=>of h rfl rfl (ef hc_2) fun a h=>of h rfl rfl (ef hc_2) fun a h=>pf h rfl (ef hc_2) fun a h=>mv h rfl fun a h=>oo h rfl rfl fun a h=>oo h rfl rfl fun a h=>oo h rfl rfl fun a h=>oo h rfl rfl fun a h=>oo h rfl rfl fun a h=>?_
   refine pf h rfl rfl fun a h=>sg h rfl fun a h=>wpList_nil <| x_then_n (hKJ_1 _ _ ?_)
   refine wp_ret ?_
   obtain rfl := Option.some.inj H
   exact r1 h 4 rfl rfl ⟨_, rfl, N_2, rfl, (hS.sel [0] (by decide))⟩
 ·refine of h rfl rfl (bf hc_1) fun a h=>of h rfl rfl (bf hc_1) fun a h=>of h rfl rfl (bf hc_1) fun a h=>of h rfl rfl (bf hc_1) fun a h=>of h rfl rfl (bf hc_1) fun a h=>pf h rfl (bf hc_1) fun a h=>mv h rfl fun a h=>oo h rfl rfl fun a h=>oo h rfl rfl fun a h=>oo h rfl rfl fun a h=>oo h rfl rfl fun a h=>oo h rfl rfl fun a h=>?_
  refine pf h rfl rfl fun a h=>mv h rfl fun a h=>oo h rfl rfl fun a h=>oo h rfl rfl fun a h=>oo h rfl rfl fun a h=>oo h rfl rfl fun a h=>oo h rfl rfl fun a h=>pf h rfl rfl fun a h=>sg h rfl fun a h=>wpList_nil <| x_then_n (hKJ_1 _ _ ?_)
  refine wp_ret ?_
  obtain rfl := Option.some.inj H
  exact r1 h 4 rfl rfl ⟨_, rfl, Mem.no, rfl, (hS.sel [0] (by decide))⟩

set_option maxHeartbeats 4000000 in
set_option maxRecDepth 20000 in
theorem hocketref4_SameResult.calls (x0 : api_Result) (p0_0 : Value) (x1 : api_Result) (p1_1 : Value) (r : Bool) (w0 w : World) (Z A : Mem) (hA : A.le Z) (hS : Sep w0 w [] Z) (hp0_0 : Rd Kd.u8 A p0_0 x0.Val) (hp1_1 : Rd Kd.u8 A p1_1 x1.Val)
    (H : hocketref4_SameResult.f x0 x1 = some r) :
    Calls Try.prog 68 [.agg (E91 x0 p0_0).toArray, .agg (E91 x1 p1_1).toArray].toArray w (Ret fun v w' => ∃ (N : Mem), v = .bool r ∧ Sep w0 w' [N] Z) := by
 unfold hocketref4_SameResult.f at H
 refine f_enter _ Try.func68 rfl Try.ntmps68 rfl fun a h=>?_
 replace h : Fr 26 a [(0, .agg (E91 x0 p0_0).toArray), (1, .agg (E91 x1 p1_1).toArray)] := h
 replace hS := hS.start
 refine qr <| v_box (vs := (E91 x0 p0_0)) h rfl rfl rfl hS fun w_1 g_1 hS' a h => ?_
 replace hS : Sep w0 w_1 [_, bx g_1 91 (E91 x0 p0_0)] Z := hS'
 refine v_box (vs := (E91 x1 p1_1)) h rfl rfl rfl hS fun w_2 g_2 hS' a h => ?_
 replace hS : Sep w0 w_2 [_, _, bx g_2 91 (E91 x1 p1_1)] Z := hS'
 refine sg h rfl fun a h=>nx <| c_seq fun KJ_1 hKJ_1 => wp_region_lit <| s_fieldAddr h rfl U91 rfl ti89 rfl rfl fun a h=>s_load h rfl rfl (hS.load_one (p := 1) rfl U89 rfl rfl) fun a h=>s_fieldAddr h rfl U91 rfl ti89 rfl rfl fun a h=>s_load h rfl rfl (hS.load_one (p := 2) rfl U89 rfl rfl) fun a h=>s_cmp (b := (x0.Err == x1.Err)) h rfl rfl rfl (.inl ⟨rfl, rfl⟩) fun a h=>mv h rfl fun a h=>?_
 obtain ⟨hc_1, H⟩ | ⟨hc_1, H⟩ := ii H
 ·refine s_on h rfl rfl (bt hc_1) <| s_fieldAddr h rfl U91 rfl ti22 rfl rfl fun a h=>s_on h rfl rfl (bt hc_1) <| s_load h rfl rfl (hS.load_one (p := 1) rfl U22 rfl rfl) fun a h=>s_on h rfl rfl (bt hc_1) <| s_b2s h rfl U22 U5 U9 rfl hp0_0 (hA.trans hS.old) fun a h=>s_on h rfl rfl (bt hc_1) <| s_fieldAddr h rfl U91 rfl ti22 rfl rfl fun a h=>s_on h rfl rfl (bt hc_1) <| s_load h rfl rfl (hS.load_one (p := 2) rfl U22 rfl rfl) fun a h=>s_on h rfl rfl (bt hc_1) <| s_b2s h rfl U22 U5 U9 rfl hp1_1 (hA.trans hS.old) fun a h=>?_
  refine s_on h rfl rfl (bt hc_1) <| s_strEq (b := (x0.Val == x1.Val)) h rfl rfl rfl (.inl ⟨rfl, rfl⟩) fun a h=>pt h rfl (bt hc_1) fun a h=>mv h rfl fun a h=>?_
  obtain ⟨hc_2, H⟩ | ⟨hc_2, H⟩ := ii H
  ·refine s_on h rfl rfl (bt hc_2) <| s_fieldAddr h rfl U91 rfl ti3 rfl rfl fun a h=>s_on h rfl rfl (bt hc_2) <| s_load h rfl rfl (hS.load_one (p := 1) rfl U3 rfl rfl) fun a h=>s_on h rfl rfl (bt hc_2) <| s_fieldAddr h rfl U91 rfl ti3 rfl rfl fun a h=>s_on h rfl rfl (bt hc_2) <| s_load h rfl rfl (hS.load_one (p := 2) rfl U3 rfl rfl) fun a h=>s_on h rfl rfl (bt hc_2) <| s_cmp (b := (x0.N == x1.N)) h rfl rfl rfl (.inl ⟨rfl, rfl⟩) fun a h=>pt h rfl (bt hc_2) fun a h=>sg h rfl fun a h=>?_
   refine wpList_nil <| x_then_n (hKJ_1 _ _ ?_)
   refine wp_ret ?_
   obtain rfl := Option.some.inj H
   exact r1 h 4 rfl rfl ⟨_, rfl, Mem.no, rfl, (hS.sel [0] (by decide))⟩
  ·refine of h rfl rfl (bf hc_2) fun a h=>of h rfl rfl (bf hc_2) fun a h=>of h rfl rfl (bf hc_2) fun a h=>of h rfl rfl (bf hc_2) fun a h=>of h rfl rfl (bf hc_2) fun a h=>pf h rfl (bf hc_2) fun a h=>sg h rfl fun a h=>wpList_nil <| x_then_n (hKJ_1 _ _ ?_)
   refine wp_ret ?_
   obtain rfl := Option.some.inj H
   exact r1 h 4 rfl rfl ⟨_, rfl, Mem.no, rfl, (hS.sel [0] (by decide))⟩
 ·refine of h rfl rfl (bf hc_1) fun a h=>of h rfl rfl (bf hc_1) fun a h=>of h rfl rfl (bf hc_1) fun a h=>of h rfl rfl (bf hc_1) fun a h=>of h rfl rfl (bf hc_1) fun a h=>of h rfl rfl (bf hc_1) fun a h=>of h rfl rfl (bf hc_1) fun a h=>pf h rfl (bf hc_1) fun a h=>mv h rfl fun a h=>oo h rfl rfl fun a h=>oo h rfl rfl fun a h=>oo h rfl rfl fun a h=>?_
  refine oo h rfl rfl fun a h=>oo h rfl rfl fun a h=>pf h rfl rfl fun a h=>sg h rfl fun a h=>wpList_nil <| x_then_n (hKJ_1 _ _ ?_)
  refine wp_ret ?_
  obtain rfl := Option.some.inj H
  exact r1 h 4 rfl rfl ⟨_, rfl, Mem.no, rfl, (hS.sel [0] (by decide))⟩

set_option maxHeartbeats 4000000 in
set_option maxRecDepth 20000 in
theorem hocketref4_SameTable.calls (K : Nat) (x0 : List api_Last) (p0_0 : Value) (x1 : List api_Last) (p1_1 : Value) (r : Bool) (w0 w : World) (Z A : Mem) (hA : A.le Z) (hS : Sep w0 w [] Z) (hp0_0 : Rd k_api_Last A p0_0 x0) (hp1_1 : Rd k_api_Last A p1_1 x1)
    (H : hocketref4_SameTable.f K x0 x1 = some r) :
    Calls Try.prog 44 [p0_0, p1_1].toArray w (Ret fun v w' => ∃ (N : Mem), v = .bool r ∧ Sep w0 w' [N] Z) := by
 unfold hocketref4_SameTable.f at H
 refine f_enter _ Try.func44 rfl Try.ntmps44 rfl fun a h=>?_
 replace h : Fr 55 a [(0, p0_0), (1, p1_1)] := h
 replace hS := hS.start
 refine qr <| sg h rfl fun a h=>nx <| c_seq fun KJ_1 hKJ_1 => qr <| mv h rfl fun a h=>s_len h rfl U33 rfl hp0_0 fun a h=>mv h rfl fun a h=>s_len h rfl U33 rfl hp1_1 fun a h=>?_
 refine s_cmp (b := ((x0.length : Int) != (x1.length : Int))) h rfl rfl rfl (.inr (.inl ⟨rfl, rfl⟩)) fun a h=>wpList_nil <| x_then_n ?_
 obtain ⟨hc_1, H⟩ | ⟨hc_1, H⟩ := ii H
 ·refine c_cond_f h rfl (xf hc_1) <| wp_skip <| x_then_n (hKJ_1 _ _ ?_)
  refine c_seq fun KJ_2 hKJ_2 => qr <| sg h rfl fun a h=>wpList_nil <| x_then_n ?_
  have hJ_j_1 : hocketref4_SameTable.J1 K = some r → ∀ (a : Act) (w_1 : World), (∃ (N_1 : Mem), Fr 55 a [(4, .bool false)] ∧ Sep w0 w_1 [N_1] Z ∧ Mem.no.le N_1) → KJ_2 a w_1 := by
   clear H h hS a
   rintro H a w_1 ⟨N_1, h, hS, le_1⟩
   unfold hocketref4_SameTable.J1 at H
   refine hKJ_2 _ _ <| qr <| sg h rfl fun a h=>wpList_nil ?_
   replace h : Fr 55 a [(4, .bool true)] := h.keep [4]
   refine x_then_n <| wp_ret ?_
   obtain rfl := Option.some.inj H
   exact r1 h 4 rfl rfl ⟨_, rfl, N_1, rfl, (hS.sel [0] (by decide))⟩
  clear hKJ_2
  refine c_block <| c_loop (fun k_1 a w_2 => ∃ (x_1 : Int) (N_2 : Mem), hocketref4_SameTable.L1 K x0 x1 (fun v => hocketref4_SameTable.J1 K) k_1 x_1 = some r ∧ Fr 55 a [(0, p0_0), (1, p1_1), (4, .bool false), (5, iV x_1)] ∧ Sep w0 w_2 [N_2] Z ∧ Mem.no.le N_2) K ⟨0, Mem.no, H, (h.to rfl), (hS.sel [0] (by decide)), mr⟩ (fun a w h => by obtain ⟨_, _, H, _⟩ := h; cases (show (none : Option (Bool)) = some r from H)) ?_
  clear h hS a H
  rintro k_1 a w_2 KL_1 hKL_1 ⟨x_1, N_2, H, h, hS, le_2⟩
  replace H : hocketref4_SameTable.B1 K x0 x1 (fun v => hocketref4_SameTable.J1 K) (hocketref4_SameTable.L1 K x0 x1 (fun v => hocketref4_SameTable.J1 K) k_1) x_1 = some r := H
  unfold hocketref4_SameTable.B1 at H
  refine c_seq fun KJ_3 hKJ_3 => qr <| mv h rfl fun a h=>mv h rfl fun a h=>s_len h rfl U33 rfl hp0_0 fun a h=>s_cmp (b := decide (x_1 < (x0.length : Int))) h rfl rfl rfl (.inr (.inr (.inl ⟨rfl, rfl⟩))) fun a h=>wpList_nil ?_
  replace h : Fr 55 a [(0, _), (1, _), (4, _), (5, _), (14, .bool (decide (x_1 < (x0.length : Int))))] := h.keep [0, 1, 4, 5, 14]
  refine x_then_n ?_
  obtain ⟨hc_2, H⟩ | ⟨hc_2, H⟩ := ii H
  ·refine c_cond_t h rfl (dt hc_2) <| wp_skip <| x_then_n (hKJ_3 _ _ ?_)
   refine c_seq fun KJ_4 hKJ_4 => c_block <| c_seq fun KJ_5 hKJ_5 => ?_
   have hJ_j_2 : ∀ (x_2 : Bool), hocketref4_SameTable.J2 K (hocketref4_SameTable.L1 K x0 x1 (fun v => hocketref4_SameTable.J1 K) k_1) x_1 x_2 = some r → ∀ (a : Act) (w_3 : World), (∃ (N_3 : Mem), Fr 55 a [(0, p0_0), (1, p1_1), (4, .bool false), (5, iV x_1), (54, .bool x_2)] ∧ Sep w0 w_3 [N_3] Z ∧ N_2.le N_3) → KJ_5 a w_3 := by
    clear H h hS a
    rintro x_2 H a w_3 ⟨N_3, h, hS, le_3⟩
    unfold hocketref4_SameTable.J2 at H
    refine hKJ_5 _ _ ?_
    obtain ⟨hc_3, H⟩ | ⟨hc_3, H⟩ := ii H
    ·refine c_cond_t h rfl hc_3 <| qr <| sg h rfl fun a h=>nx <| wp_ret (x_block_r (x_then_r (x_then_r (x_block_r (x_then_r ?_)))))
     obtain rfl := Option.some.inj H
     exact r1 h 4 rfl rfl ⟨_, rfl, N_3, rfl, (hS.sel [0] (by decide))⟩
    ·refine c_cond_f h rfl (ef hc_3) <| wp_skip <| x_block_n <| x_then_n (hKJ_4 _ _ ?_)
     refine wp_region_lit <| mv h rfl fun a h=>s_arith (r := w64 (x_1 + 1)) h rfl rfl rfl (.inl ⟨rfl, rfl⟩) fun a h=>sg h rfl fun a h=>wpList_nil <| x_then_n (hKL_1 _ _ ?_)
     exact ⟨w64 (x_1 + 1), N_3, H, (h.to rfl), (hS.sel [0] (by decide)), (le_2.trans le_3)⟩
   clear hKJ_5
   refine h_begin (S := fun w => Sep w0 w [N_2] Z) 38 (by kernel_rfl) rfl (bA 38 0) (by kernel_rfl) hS fun w_4 hS => ?_
   refine h_masks [(18, 1, 0), (19, 32, 0), (20, 393216, 3), (21, 524288, 4), (22, 1048576, 8), (23, 2, 0), (24, 32, 0), (25, 12582912, 96), (26, 16777216, 128), (27, 33554432, 256), (28, 69206016, 528), (29, 134217728, 1024), (30, 268435457, 2048), (31, 268435488, 2048), (32, 1879048192, 14336), (33, 2415919104, 18432), (34, 4563402752, 34816), (35, 268435458, 2048), (36, 268435488, 2048), (37, 51808043008, 395264), (38, 68987912192, 526336), (39, 137707388928, 1050624), (40, 283736276992, 2164736), (41, 550024249344, 4196352), (42, 1099511627776, 8390656), (43, 2199023255553, 16777216), (44, 2199023255584, 16777216), (45, 15393162788864, 117440512), (46, 19791209299968, 150994944), (47, 37383395344384, 285212672), (48, 2199023255554, 16777216), (49, 2199023255584, 16777216), (50, 424411488321536, 3238002688), (51, 565148976676864, 4311744512), (52, 1128098930098176, 8606711808), (53, 2324367581118464, 17733517312), (54, 4505798650626048, 34376515584), (55, 9009398277996544, 68736253952)] (by kernel_rfl) (by kernel_rfl) fun hF => m_take hF 0 (bA 38 1) rfl rfl rfl rfl h (hS.sub .ii) (v := p0_0) (fun w hS => r_move h rfl) fun a h=>m_take hF 1 (bA 38 3) rfl rfl rfl rfl h (hS.sub .ii) (v := iV x_1) (fun w hS => r_move h rfl) fun a h=>?_
   obtain ⟨t_1, et_1, H⟩ := bs H
   refine m_takeE hF 2 (bA 38 7) rfl rfl rfl rfl h (hS.sub .ii) (f := fun ad => .pointer (some ad)) (r_index h U33 ti93 rfl rfl rfl hp0_0 et_1) ?_
   rintro ad_1 ⟨cs_1, hk_1, hc_4⟩
   obtain ⟨v_1, rfl, hr_1⟩ := k_api_Last.open' hk_1
   intro a h
   refine m_take hF 3 (bA 38 15) rfl rfl rfl rfl h (hS.sub .ii) (v := .pointer (some (ad_1.add 0))) (fun w hS => r_fieldAddr h U93 rfl ti3 rfl rfl rfl) fun a h=>m_take hF 4 (bA 38 31) rfl rfl rfl rfl h (hS.sub .ii) (v := iV t_1.Sess) (fun w hS => r_load h rfl (el_one (o := 0) (fun j c h => Mem.cell_le (hA.trans hS.old) (hc_4 j c h)) U3 rfl rfl)) fun a h=>m_take hF 5 (bA 38 63) rfl rfl rfl rfl h (hS.sub .ii) (v := p1_1) (fun w hS => r_move h rfl) fun a h=>m_take hF 6 (bA 38 127) rfl rfl rfl rfl h (hS.sub .ii) (v := iV x_1) (fun w hS => r_move h rfl) fun a h=>?_
   obtain ⟨t_2, et_2, H⟩ := bs H
   refine m_takeE hF 7 (bA 38 255) rfl rfl rfl rfl h (hS.sub .ii) (f := fun ad => .pointer (some ad)) (r_index h U33 ti93 rfl rfl rfl hp1_1 et_2) ?_
   rintro ad_2 ⟨cs_2, hk_2, hc_5⟩
   obtain ⟨v_2, rfl, hr_2⟩ := k_api_Last.open' hk_2
   intro a h
   refine m_take hF 8 (bA 38 511) rfl rfl rfl rfl h (hS.sub .ii) (v := .pointer (some (ad_2.add 0))) (fun w hS => r_fieldAddr h U93 rfl ti3 rfl rfl rfl) fun a h=>m_take hF 9 (bA 38 1023) rfl rfl rfl rfl h (hS.sub .ii) (v := iV t_2.Sess) (fun w hS => r_load h rfl (el_one (o := 0) (fun j c h => Mem.cell_le (hA.trans hS.old) (hc_5 j c h)) U3 rfl rfl)) fun a h=>m_take hF 10 (bA 38 2047) rfl rfl rfl rfl h (hS.sub .ii) (v := .bool (t_1.Sess != t_2.Sess)) (fun w hS => r_cmp (b := (t_1.Sess != t_2.Sess)) h rfl rfl (.inr (.inl ⟨rfl, rfl⟩))) fun a h=>m_take hF 11 (bA 38 4095) rfl rfl rfl rfl h (hS.sub .ii) (v := .bool (t_1.Sess != t_2.Sess)) (fun w hS => r_move h rfl) fun a h=>?_
   obtain ⟨hc_6, H⟩ | ⟨hc_6, H⟩ := ii H
   ·refine m_take_on hF 12 (bA 38 8191) rfl rfl rfl rfl (xf hc_6) rfl rfl h (hS.sub .ii) (v := p0_0) (fun w hS => r_move h rfl) fun a h=>m_take_on hF 13 (bA 38 16383) rfl rfl rfl rfl (xf hc_6) rfl rfl h (hS.sub .ii) (v := iV x_1) (fun w hS => r_move h rfl) fun a h=>?_
    obtain ⟨t_3, et_3, H⟩ := bs H
    refine m_takeE_on hF 14 (bA 38 32767) rfl rfl rfl rfl (xf hc_6) rfl rfl h (hS.sub .ii) (f := fun ad => .pointer (some ad)) (r_index h U33 ti93 rfl rfl rfl hp0_0 et_3) ?_
    rintro ad_3 ⟨cs_3, hk_3, hc_7⟩
    obtain ⟨v_3, rfl, hr_3⟩ := k_api_Last.open' hk_3
    intro a h
    refine m_take_on hF 15 (bA 38 65535) rfl rfl rfl rfl (xf hc_6) rfl rfl h (hS.sub .ii) (v := .pointer (some (ad_3.add 1))) (fun w hS => r_fieldAddr h U93 rfl ti3 rfl rfl rfl) fun a h=>m_take_on hF 16 (bA 38 131071) rfl rfl rfl rfl (xf hc_6) rfl rfl h (hS.sub .ii) (v := iV t_3.Seq) (fun w hS => r_load h rfl (el_one (o := 1) (fun j c h => Mem.cell_le (hA.trans hS.old) (hc_7 j c h)) U3 rfl rfl)) fun a h=>m_take_on hF 17 (bA 38 262143) rfl rfl rfl rfl (xf hc_6) rfl rfl h (hS.sub .ii) (v := p1_1) (fun w hS => r_move h rfl) fun a h=>m_take_on hF 18 (bA 38 524287) rfl rfl rfl rfl (xf hc_6) rfl rfl h (hS.sub .ii) (v := iV x_1) (fun w hS => r_move h rfl) fun a h=>?_
    obtain ⟨t_4, et_4, H⟩ := bs H
    refine m_takeE_on hF 19 (bA 38 1048575) rfl rfl rfl rfl (xf hc_6) rfl rfl h (hS.sub .ii) (f := fun ad => .pointer (some ad)) (r_index h U33 ti93 rfl rfl rfl hp1_1 et_4) ?_
    rintro ad_4 ⟨cs_4, hk_4, hc_8⟩
    obtain ⟨v_4, rfl, hr_4⟩ := k_api_Last.open' hk_4
    intro a h
    refine m_take_on hF 20 (bA 38 2097151) rfl rfl rfl rfl (xf hc_6) rfl rfl h (hS.sub .ii) (v := .pointer (some (ad_4.add 1))) (fun w hS => r_fieldAddr h U93 rfl ti3 rfl rfl rfl) fun a h=>m_take_on hF 21 (bA 38 4194303) rfl rfl rfl rfl (xf hc_6) rfl rfl h (hS.sub .ii) (v := iV t_4.Seq) (fun w hS => r_load h rfl (el_one (o := 1) (fun j c h => Mem.cell_le (hA.trans hS.old) (hc_8 j c h)) U3 rfl rfl)) fun a h=>m_take_on hF 22 (bA 38 8388607) rfl rfl rfl rfl (xf hc_6) rfl rfl h (hS.sub .ii) (v := .bool (t_3.Seq != t_4.Seq)) (fun w hS => r_cmp (b := (t_3.Seq != t_4.Seq)) h rfl rfl (.inr (.inl ⟨rfl, rfl⟩))) fun a h=>m_take hF 23 (bA 38 16777215) rfl rfl rfl rfl h (hS.sub .ii) (v := .bool (t_3.Seq != t_4.Seq)) (fun w hS => r_pick_f h rfl (xf hc_6) rfl) fun a h=>m_take hF 24 (bA 38 33554431) rfl rfl rfl rfl h (hS.sub .ii) (v := .bool (t_3.Seq != t_4.Seq)) (fun w hS => r_move h rfl) fun a h=>?_
    obtain ⟨hc_9, H⟩ | ⟨hc_9, H⟩ := ii H
    ·refine m_take_on hF 25 (bA 38 67108863) rfl rfl rfl rfl (xf hc_9) rfl rfl h (hS.sub .ii) (v := p0_0) (fun w hS => r_move h rfl) fun a h=>m_take_on hF 26 (bA 38 134217727) rfl rfl rfl rfl (xf hc_9) rfl rfl h (hS.sub .ii) (v := iV x_1) (fun w hS => r_move h rfl) fun a h=>?_
     obtain ⟨t_5, et_5, H⟩ := bs H
     refine m_takeE_on hF 27 (bA 38 268435455) rfl rfl rfl rfl (xf hc_9) rfl rfl h (hS.sub .ii) (f := fun ad => .pointer (some ad)) (r_index h U33 ti93 rfl rfl rfl hp0_0 et_5) ?_
     rintro ad_5 ⟨cs_5, hk_5, hc_10⟩
     obtain ⟨v_5, rfl, hr_5⟩ := k_api_Last.open' hk_5
     intro a h
     refine m_take_on hF 28 (bA 38 536870911) rfl rfl rfl rfl (xf hc_9) rfl rfl h (hS.sub .ii) (v := .pointer (some (ad_5.add 2))) (fun w hS => r_fieldAddr h U93 rfl ti91 rfl rfl rfl) fun a h=>m_take_on hF 29 (bA 38 1073741823) rfl rfl rfl rfl (xf hc_9) rfl rfl h (hS.sub .ii) (v := .agg (E91 t_5.Result v_5).toArray) (fun w hS => r_load h rfl (el_agg (o := 2) (us := (E91 t_5.Result v_5)) (fun j c h => Mem.cell_le (hA.trans hS.old) (hc_10 j c h)) U91 rfl ti91 rfl rfl)) fun a h=>m_take_on hF 30 (bA 38 2147483647) rfl rfl rfl rfl (xf hc_9) rfl rfl h (hS.sub .ii) (v := p1_1) (fun w hS => r_move h rfl) fun a h=>m_take_on hF 31 (bA 38 4294967295) rfl rfl rfl rfl (xf hc_9) rfl rfl h (hS.sub .ii) (v := iV x_1) (fun w hS => r_move h rfl) fun a h=>?_
     obtain ⟨t_6, et_6, H⟩ := bs H
     refine m_takeE_on hF 32 (bA 38 8589934591) rfl rfl rfl rfl (xf hc_9) rfl rfl h (hS.sub .ii) (f := fun ad => .pointer (some ad)) (r_index h U33 ti93 rfl rfl rfl hp1_1 et_6) ?_
     rintro ad_6 ⟨cs_6, hk_6, hc_11⟩
     obtain ⟨v_6, rfl, hr_6⟩ := k_api_Last.open' hk_6
     intro a h
     refine m_take_on hF 33 (bA 38 17179869183) rfl rfl rfl rfl (xf hc_9) rfl rfl h (hS.sub .ii) (v := .pointer (some (ad_6.add 2))) (fun w hS => r_fieldAddr h U93 rfl ti91 rfl rfl rfl) fun a h=>m_take_on hF 34 (bA 38 34359738367) rfl rfl rfl rfl (xf hc_9) rfl rfl h (hS.sub .ii) (v := .agg (E91 t_6.Result v_6).toArray) (fun w hS => r_load h rfl (el_agg (o := 2) (us := (E91 t_6.Result v_6)) (fun j c h => Mem.cell_le (hA.trans hS.old) (hc_11 j c h)) U91 rfl ti91 rfl rfl)) fun a h=>h_event 35 (bA 38 68719476735) rfl (by kernel_rfl) (by kernel_rfl) <| s_on h rfl rfl (xf hc_9) ?_
     obtain ⟨t_7, et_7, H⟩ := bs H
     refine s_call h rfl Try.call68 rfl (hocketref4_SameResult.calls t_5.Result _ t_6.Result _ t_7 w0 _ _ _ mr (hS.enter [] (by decide)) (hr_5.mono (hA.trans (hS.le_zed []))) (hr_6.mono (hA.trans (hS.le_zed []))) et_7) ?_
     rintro _ w_5 ⟨N_4, rfl, hS'⟩
     intro a h
     obtain ⟨N_5, hS'', le_4, ln_1⟩ := hS.call [] (by decide) rfl (l' := []) (ow := []) rfl hS'
     replace hS : Sep w0 w_5 [N_5] Z := hS''
     refine ne (hS.sub (.cons le_4 .ii)) fun hs => ?_
     refine m_take_on hF 36 (bA 38 137438953471) rfl rfl rfl rfl (xf hc_9) rfl rfl h (hS.sub (.cons le_4 .ii)) (v := .bool (!t_7)) (fun w hS => r_not h rfl) fun a h=>m_take hF 37 (bA 38 274877906943) rfl rfl rfl rfl h (hS.sub (.cons le_4 .ii)) (v := .bool (!t_7)) (fun w hS => r_pick_f h rfl (xf hc_9) rfl) fun a h=>h_done (by kernel_rfl) ?_
     exact x_then_n (hJ_j_2 (!t_7) H _ _ ⟨N_5, (h.to rfl), (hS.sel [0] (by decide)), le_4⟩)
    ·refine m_take_off hF 25 (bA 38 67108863) rfl rfl rfl rfl (.inl (congrArg Value.bool (xt hc_9))) rfl rfl h (hS.sub .ii) fun a h=>m_take_off hF 26 (bA 38 134217727) rfl rfl rfl rfl (.inl (congrArg Value.bool (xt hc_9))) rfl rfl h (hS.sub .ii) fun a h=>m_take_off hF 27 (bA 38 268435455) rfl rfl rfl rfl (.inl (congrArg Value.bool (xt hc_9))) rfl rfl h (hS.sub .ii) fun a h=>m_take_off hF 28 (bA 38 536870911) rfl rfl rfl rfl (.inl (congrArg Value.bool (xt hc_9))) rfl rfl h (hS.sub .ii) fun a h=>m_take_off hF 29 (bA 38 1073741823) rfl rfl rfl rfl (.inl (congrArg Value.bool (xt hc_9))) rfl rfl h (hS.sub .ii) fun a h=>m_take_off hF 30 (bA 38 2147483647) rfl rfl rfl rfl (.inl (congrArg Value.bool (xt hc_9))) rfl rfl h (hS.sub .ii) fun a h=>m_take_off hF 31 (bA 38 4294967295) rfl rfl rfl rfl (.inl (congrArg Value.bool (xt hc_9))) rfl rfl h (hS.sub .ii) fun a h=>m_take_off hF 32 (bA 38 8589934591) rfl rfl rfl rfl (.inl (congrArg Value.bool (xt hc_9))) rfl rfl h (hS.sub .ii) fun a h=>m_take_off hF 33 (bA 38 17179869183) rfl rfl rfl rfl (.inl (congrArg Value.bool (xt hc_9))) rfl rfl h (hS.sub .ii) fun a h=>?_
     refine m_take_off hF 34 (bA 38 34359738367) rfl rfl rfl rfl (.inl (congrArg Value.bool (xt hc_9))) rfl rfl h (hS.sub .ii) fun a h=>m_take_off hF 35 (bA 38 68719476735) rfl rfl rfl rfl (.inl (congrArg Value.bool (xt hc_9))) rfl rfl h (hS.sub .ii) fun a h=>m_take_off hF 36 (bA 38 137438953471) rfl rfl rfl rfl (.inl (congrArg Value.bool (xt hc_9))) rfl rfl h (hS.sub .ii) fun a h=>m_take hF 37 (bA 38 274877906943) rfl rfl rfl rfl h (hS.sub .ii) (v := .bool true) (fun w hS => r_pick_t h rfl (xt hc_9) rfl) fun a h=>h_done (by kernel_rfl) ?_
     exact x_then_n (hJ_j_2 true H _ _ ⟨N_2, (h.to rfl), (hS.sel [0] (by decide)), mr⟩)
   ·refine m_take_off hF 12 (bA 38 8191) rfl rfl rfl rfl (.inl (congrArg Value.bool (xt hc_6))) rfl rfl h (hS.sub .ii) fun a h=>m_take_off hF 13 (bA 38 16383) rfl rfl rfl rfl (.inl (congrArg Value.bool (xt hc_6))) rfl rfl h (hS.sub .ii) fun a h=>m_take_off hF 14 (bA 38 32767) rfl rfl rfl rfl (.inl (congrArg Value.bool (xt hc_6))) rfl rfl h (hS.sub .ii) fun a h=>m_take_off hF 15 (bA 38 65535) rfl rfl rfl rfl (.inl (congrArg Value.bool (xt hc_6))) rfl rfl h (hS.sub .ii) fun a h=>m_take_off hF 16 (bA 38 131071) rfl rfl rfl rfl (.inl (congrArg Value.bool (xt hc_6))) rfl rfl h (hS.sub .ii) fun a h=>m_take_off hF 17 (bA 38 262143) rfl rfl rfl rfl (.inl (congrArg Value.bool (xt hc_6))) rfl rfl h (hS.sub .ii) fun a h=>m_take_off hF 18 (bA 38 524287) rfl rfl rfl rfl (.inl (congrArg Value.bool (xt hc_6))) rfl rfl h (hS.sub .ii) fun a h=>m_take_off hF 19 (bA 38 1048575) rfl rfl rfl rfl (.inl (congrArg Value.bool (xt hc_6))) rfl rfl h (hS.sub .ii) fun a h=>m_take_off hF 20 (bA 38 2097151) rfl rfl rfl rfl (.inl (congrArg Value.bool (xt hc_6))) rfl rfl h (hS.sub .ii) fun a h=>?_
    refine m_take_off hF 21 (bA 38 4194303) rfl rfl rfl rfl (.inl (congrArg Value.bool (xt hc_6))) rfl rfl h (hS.sub .ii) fun a h=>m_take_off hF 22 (bA 38 8388607) rfl rfl rfl rfl (.inl (congrArg Value.bool (xt hc_6))) rfl rfl h (hS.sub .ii) fun a h=>m_take hF 23 (bA 38 16777215) rfl rfl rfl rfl h (hS.sub .ii) (v := .bool true) (fun w hS => r_pick_t h rfl (xt hc_6) rfl) fun a h=>m_take hF 24 (bA 38 33554431) rfl rfl rfl rfl h (hS.sub .ii) (v := .bool true) (fun w hS => r_move h rfl) fun a h=>m_take_off hF 25 (bA 38 67108863) rfl rfl rfl rfl (.inl (congrArg Value.bool rfl)) rfl rfl h (hS.sub .ii) fun a h=>m_take_off hF 26 (bA 38 134217727) rfl rfl rfl rfl (.inl (congrArg Value.bool rfl)) rfl rfl h (hS.sub .ii) fun a h=>m_take_off hF 27 (bA 38 268435455) rfl rfl rfl rfl (.inl (congrArg Value.bool rfl)) rfl rfl h (hS.sub .ii) fun a h=>m_take_off hF 28 (bA 38 536870911) rfl rfl rfl rfl (.inl (congrArg Value.bool rfl)) rfl rfl h (hS.sub .ii) fun a h=>m_take_off hF 29 (bA 38 1073741823) rfl rfl rfl rfl (.inl (congrArg Value.bool rfl)) rfl rfl h (hS.sub .ii) fun a h=>m_take_off hF 30 (bA 38 2147483647) rfl rfl rfl rfl (.inl (congrArg Value.bool rfl)) rfl rfl h (hS.sub .ii) fun a h=>?_
    refine m_take_off hF 31 (bA 38 4294967295) rfl rfl rfl rfl (.inl (congrArg Value.bool rfl)) rfl rfl h (hS.sub .ii) fun a h=>m_take_off hF 32 (bA 38 8589934591) rfl rfl rfl rfl (.inl (congrArg Value.bool rfl)) rfl rfl h (hS.sub .ii) fun a h=>m_take_off hF 33 (bA 38 17179869183) rfl rfl rfl rfl (.inl (congrArg Value.bool rfl)) rfl rfl h (hS.sub .ii) fun a h=>m_take_off hF 34 (bA 38 34359738367) rfl rfl rfl rfl (.inl (congrArg Value.bool rfl)) rfl rfl h (hS.sub .ii) fun a h=>m_take_off hF 35 (bA 38 68719476735) rfl rfl rfl rfl (.inl (congrArg Value.bool rfl)) rfl rfl h (hS.sub .ii) fun a h=>m_take_off hF 36 (bA 38 137438953471) rfl rfl rfl rfl (.inl (congrArg Value.bool rfl)) rfl rfl h (hS.sub .ii) fun a h=>m_take hF 37 (bA 38 274877906943) rfl rfl rfl rfl h (hS.sub .ii) (v := .bool true) (fun w hS => r_pick_t h rfl rfl rfl) fun a h=>h_done (by kernel_rfl) ?_
    exact x_then_n (hJ_j_2 true H _ _ ⟨N_2, (h.to rfl), (hS.sel [0] (by decide)), mr⟩)
  ·refine c_cond_f h rfl (df hc_2) <| wp_exit (x_then_x (x_then_x (x_block_t ?_)))
   exact x_then_n (hJ_j_1  H _ _ ⟨N_2, (h.to rfl), (hS.sel [0] (by decide)), le_2⟩)
 ·refine c_cond_t h rfl (xt hc_1) <| qr <| sg h rfl fun a h=>nx <| wp_ret (x_then_r ?_)
  obtain rfl := Option.some.inj H
  exact r1 h 4 rfl rfl ⟨_, rfl, Mem.no, rfl, (hS.sel [0] (by decide))⟩

set_option maxHeartbeats 4000000 in
set_option maxRecDepth 20000 in
theorem hocketref4_Same.calls (K : Nat) (x0 : api_Machine) (p0_0 : Value) (p0_1 : Value) (p0_2 : Value) (p0_3 : Value) (p0_4 : Value) (x1 : api_Machine) (p1_5 : Value) (p1_6 : Value) (p1_7 : Value) (p1_8 : Value) (p1_9 : Value) (r : Bool) (w0 w : World) (Z A : Mem) (hA : A.le Z) (hS : Sep w0 w [] Z) (hp0_0 : Rd Kd.u8 A p0_0 x0.Objects.Reg) (hp0_1 : Rd (Kd.slice Kd.u8) A p0_1 x0.Objects.Queue) (hp0_2 : Rd (Kd.int .i64) A p0_2 x0.Objects.Lock) (hp0_3 : Rd k_api_Pair A p0_3 x0.Objects.Map) (hp0_4 : Rd k_api_Last A p0_4 x0.Table) (hp1_5 : Rd Kd.u8 A p1_5 x1.Objects.Reg) (hp1_6 : Rd (Kd.slice Kd.u8) A p1_6 x1.Objects.Queue) (hp1_7 : Rd (Kd.int .i64) A p1_7 x1.Objects.Lock) (hp1_8 : Rd k_api_Pair A p1_8 x1.Objects.Map) (hp1_9 : Rd k_api_Last A p1_9 x1.Table)
    (H : hocketref4_Same.f K x0 x1 = some r) :
    Calls Try.prog 18 [.agg ([p0_0, p0_1, p0_2, p0_3, p0_4] : List Value).toArray, .agg ([p1_5, p1_6, p1_7, p1_8, p1_9] : List Value).toArray].toArray w (Ret fun v w' => ∃ (N : Mem), v = .bool r ∧ Sep w0 w' [N] Z) := by
 unfold hocketref4_Same.f at H
 refine f_enter _ Try.func18 rfl Try.ntmps18 rfl fun a h=>?_
 replace h : Fr 17 a [(0, .agg ([p0_0, p0_1, p0_2, p0_3, p0_4] : List Value).toArray), (1, .agg ([p1_5, p1_6, p1_7, p1_8, p1_9] : List Value).toArray)] := h
 replace hS := hS.start
 refine qr <| v_box (vs := [p0_0, p0_1, p0_2, p0_3, p0_4]) h rfl rfl rfl hS fun w_1 g_1 hS' a h => ?_
 replace hS : Sep w0 w_1 [_, bx g_1 35 [p0_0, p0_1, p0_2, p0_3, p0_4]] Z := hS'
 refine v_box (vs := [p1_5, p1_6, p1_7, p1_8, p1_9]) h rfl rfl rfl hS fun w_2 g_2 hS' a h => ?_
 replace hS : Sep w0 w_2 [_, _, bx g_2 35 [p1_5, p1_6, p1_7, p1_8, p1_9]] Z := hS'
 refine sg h rfl fun a h=>nx <| c_seq fun KJ_1 hKJ_1 => wp_region_lit <| s_fieldAddr h rfl U35 rfl ti32 rfl rfl fun a h=>s_load h rfl rfl (hS.load_agg (p := 1) (us := [p0_0, p0_1, p0_2, p0_3]) rfl U32 rfl ti32 rfl rfl) fun a h=>s_fieldAddr h rfl U35 rfl ti32 rfl rfl fun a h=>s_load h rfl rfl (hS.load_agg (p := 2) (us := [p1_5, p1_6, p1_7, p1_8]) rfl U32 rfl ti32 rfl rfl) fun a h=>?_
 obtain ⟨t_1, et_1, H⟩ := bs H
 refine s_call h rfl Try.call43 rfl (hocketref4_SameObjects.calls K x0.Objects _ _ _ _ x1.Objects _ _ _ _ t_1 w0 _ _ _ mr (hS.enter [] (by decide)) (hp0_0.mono (hA.trans (hS.le_zed []))) (hp0_1.mono (hA.trans (hS.le_zed []))) (hp0_2.mono (hA.trans (hS.le_zed []))) (hp0_3.mono (hA.trans (hS.le_zed []))) (hp1_5.mono (hA.trans (hS.le_zed []))) (hp1_6.mono (hA.trans (hS.le_zed []))) (hp1_7.mono (hA.trans (hS.le_zed []))) (hp1_8.mono (hA.trans (hS.le_zed []))) et_1) ?_
 rintro _ w_3 ⟨N_1, rfl, hS'⟩
 intro a h
 obtain ⟨N_2, hS'', le_1, ln_1⟩ := hS.call [] (by decide) rfl (l' := []) (ow := []) rfl hS'
 replace hS : Sep w0 w_3 [N_2, _, _] Z := hS''
 refine mv h rfl fun a h=>?_
 obtain ⟨hc_1, H⟩ | ⟨hc_1, H⟩ := ii H
 ·refine s_on h rfl rfl hc_1 <| s_fieldAddr h rfl U35 rfl ti33 rfl rfl fun a h=>s_on h rfl rfl hc_1 <| s_load h rfl rfl (hS.load_one (p := 1) rfl U33 rfl rfl) fun a h=>s_on h rfl rfl hc_1 <| s_fieldAddr h rfl U35 rfl ti33 rfl rfl fun a h=>s_on h rfl rfl hc_1 <| s_load h rfl rfl (hS.load_one (p := 2) rfl U33 rfl rfl) fun a h=>s_on h rfl rfl hc_1 ?_
  obtain ⟨t_2, et_2, H⟩ := bs H
  refine s_call h rfl Try.call44 rfl (hocketref4_SameTable.calls K x0.Table _ x1.Table _ t_2 w0 _ _ _ mr (hS.enter [] (by decide)) (hp0_4.mono (hA.trans (hS.le_zed []))) (hp1_9.mono (hA.trans (hS.le_zed []))) et_2) ?_
  rintro _ w_4 ⟨N_3, rfl, hS'⟩
  intro a h
  obtain ⟨N_4, hS'', le_2, ln_2⟩ := hS.call [] (by decide) rfl (l' := []) (ow := []) rfl hS'
  replace hS : Sep w0 w_4 [N_4, _, _] Z := hS''
  refine pt h rfl hc_1 fun a h=>sg h rfl fun a h=>wpList_nil <| x_then_n (hKJ_1 _ _ ?_)
  refine wp_ret ?_
  obtain rfl := Option.some.inj H
  exact r1 h 4 rfl rfl ⟨_, rfl, N_4, rfl, (hS.sel [0] (by decide))⟩
 ·refine of h rfl rfl (ef hc_1) fun a h=>of h rfl rfl (ef hc_1) fun a h=>of h rfl rfl (ef hc_1) fun a h=>of h rfl rfl (ef hc_1) fun a h=>of h rfl rfl (ef hc_1) fun a h=>pf h rfl (ef hc_1) fun a h=>sg h rfl fun a h=>wpList_nil <| x_then_n (hKJ_1 _ _ ?_)
  refine wp_ret ?_
  obtain rfl := Option.some.inj H
  exact r1 h 4 rfl rfl ⟨_, rfl, N_2, rfl, (hS.sel [0] (by decide))⟩

set_option maxHeartbeats 4000000 in
set_option maxRecDepth 20000 in
theorem hocketref4_SameEntry.calls (x0 : api_Entry) (p0_0 : Value) (p0_1 : Value) (p0_2 : Value) (x1 : api_Entry) (p1_3 : Value) (p1_4 : Value) (p1_5 : Value) (r : Bool) (w0 w : World) (Z A : Mem) (hA : A.le Z) (hS : Sep w0 w [] Z) (hp0_0 : Rd Kd.u8 A p0_0 x0.Cmd.Key) (hp0_1 : Rd Kd.u8 A p0_1 x0.Cmd.Val) (hp0_2 : Rd Kd.u8 A p0_2 x0.Cmd.Old) (hp1_3 : Rd Kd.u8 A p1_3 x1.Cmd.Key) (hp1_4 : Rd Kd.u8 A p1_4 x1.Cmd.Val) (hp1_5 : Rd Kd.u8 A p1_5 x1.Cmd.Old)
    (H : hocketref4_SameEntry.f x0 x1 = some r) :
    Calls Try.prog 64 [.agg (E26 x0 p0_0 p0_1 p0_2).toArray, .agg (E26 x1 p1_3 p1_4 p1_5).toArray].toArray w (Ret fun v w' => ∃ (N : Mem), v = .bool r ∧ Sep w0 w' [N] Z) := by
 unfold hocketref4_SameEntry.f at H
 refine f_enter _ Try.func64 rfl Try.ntmps64 rfl fun a h=>?_
 replace h : Fr 68 a [(0, .agg (E26 x0 p0_0 p0_1 p0_2).toArray), (1, .agg (E26 x1 p1_3 p1_4 p1_5).toArray)] := h
 replace hS := hS.start
 refine qr <| v_box (vs := (E26 x0 p0_0 p0_1 p0_2)) h rfl rfl rfl hS fun w_1 g_1 hS' a h => ?_
 replace hS : Sep w0 w_1 [_, bx g_1 26 (E26 x0 p0_0 p0_1 p0_2)] Z := hS'
 refine v_box (vs := (E26 x1 p1_3 p1_4 p1_5)) h rfl rfl rfl hS fun w_2 g_2 hS' a h => ?_
 replace hS : Sep w0 w_2 [_, _, bx g_2 26 (E26 x1 p1_3 p1_4 p1_5)] Z := hS'
 refine sg h rfl fun a h=>nx <| c_seq fun KJ_1 hKJ_1 => wp_region_lit <| s_fieldAddr h rfl U26 rfl ti3 rfl rfl fun a h=>s_load h rfl rfl (hS.load_one (p := 1) rfl U3 rfl rfl) fun a h=>s_fieldAddr h rfl U26 rfl ti3 rfl rfl fun a h=>s_load h rfl rfl (hS.load_one (p := 2) rfl U3 rfl rfl) fun a h=>s_cmp (b := (x0.Sess == x1.Sess)) h rfl rfl rfl (.inl ⟨rfl, rfl⟩) fun a h=>mv h rfl fun a h=>?_
 obtain ⟨hc_1, H⟩ | ⟨hc_1, H⟩ := ii H
 ·refine s_on h rfl rfl (bt hc_1) <| s_fieldAddr h rfl U26 rfl ti3 rfl rfl fun a h=>s_on h rfl rfl (bt hc_1) <| s_load h rfl rfl (hS.load_one (p := 1) rfl U3 rfl rfl) fun a h=>s_on h rfl rfl (bt hc_1) <| s_fieldAddr h rfl U26 rfl ti3 rfl rfl fun a h=>s_on h rfl rfl (bt hc_1) <| s_load h rfl rfl (hS.load_one (p := 2) rfl U3 rfl rfl) fun a h=>s_on h rfl rfl (bt hc_1) <| s_cmp (b := (x0.Seq == x1.Seq)) h rfl rfl rfl (.inl ⟨rfl, rfl⟩) fun a h=>pt h rfl (bt hc_1) fun a h=>mv h rfl fun a h=>?_
  obtain ⟨hc_2, H⟩ | ⟨hc_2, H⟩ := ii H
  ·refine s_on h rfl rfl (bt hc_2) <| s_fieldAddr h rfl U26 rfl ti24 rfl rfl fun a h=>s_on h rfl rfl (bt hc_2) <| s_fieldAddr h rfl U24 rfl ti3 rfl rfl fun a h=>s_on h rfl rfl (bt hc_2) <| s_load h rfl rfl (hS.load_one (p := 1) rfl U3 rfl rfl) fun a h=>s_on h rfl rfl (bt hc_2) <| s_fieldAddr h rfl U26 rfl ti24 rfl rfl fun a h=>s_on h rfl rfl (bt hc_2) <| s_fieldAddr h rfl U24 rfl ti3 rfl rfl fun a h=>s_on h rfl rfl (bt hc_2) <| s_load h rfl rfl (hS.load_one (p := 2) rfl U3 rfl rfl) fun a h=>?_
   refine s_on h rfl rfl (bt hc_2) <| s_cmp (b := (x0.Cmd.Kind == x1.Cmd.Kind)) h rfl rfl rfl (.inl ⟨rfl, rfl⟩) fun a h=>pt h rfl (bt hc_2) fun a h=>mv h rfl fun a h=>?_
   obtain ⟨hc_3, H⟩ | ⟨hc_3, H⟩ := ii H
   ·refine s_on h rfl rfl (bt hc_3) <| s_fieldAddr h rfl U26 rfl ti24 rfl rfl fun a h=>s_on h rfl rfl (bt hc_3) <| s_fieldAddr h rfl U24 rfl ti3 rfl rfl fun a h=>s_on h rfl rfl (bt hc_3) <| s_load h rfl rfl (hS.load_one (p := 1) rfl U3 rfl rfl) fun a h=>s_on h rfl rfl (bt hc_3) <| s_fieldAddr h rfl U26 rfl ti24 rfl rfl fun a h=>s_on h rfl rfl (bt hc_3) <| s_fieldAddr h rfl U24 rfl ti3 rfl rfl fun a h=>s_on h rfl rfl (bt hc_3) <| s_load h rfl rfl (hS.load_one (p := 2) rfl U3 rfl rfl) fun a h=>?_
    refine s_on h rfl rfl (bt hc_3) <| s_cmp (b := (x0.Cmd.Who == x1.Cmd.Who)) h rfl rfl rfl (.inl ⟨rfl, rfl⟩) fun a h=>pt h rfl (bt hc_3) fun a h=>mv h rfl fun a h=>?_
    obtain ⟨hc_4, H⟩ | ⟨hc_4, H⟩ := ii H
    ·refine s_on h rfl rfl (bt hc_4) <| s_fieldAddr h rfl U26 rfl ti24 rfl rfl fun a h=>s_on h rfl rfl (bt hc_4) <| s_fieldAddr h rfl U24 rfl ti22 rfl rfl fun a h=>s_on h rfl rfl (bt hc_4) <| s_load h rfl rfl (hS.load_one (p := 1) rfl U22 rfl rfl) fun a h=>s_on h rfl rfl (bt hc_4) <| s_b2s h rfl U22 U5 U9 rfl hp0_0 (hA.trans hS.old) fun a h=>s_on h rfl rfl (bt hc_4) <| s_fieldAddr h rfl U26 rfl ti24 rfl rfl fun a h=>s_on h rfl rfl (bt hc_4) <| s_fieldAddr h rfl U24 rfl ti22 rfl rfl fun a h=>?_
     refine s_on h rfl rfl (bt hc_4) <| s_load h rfl rfl (hS.load_one (p := 2) rfl U22 rfl rfl) fun a h=>s_on h rfl rfl (bt hc_4) <| s_b2s h rfl U22 U5 U9 rfl hp1_3 (hA.trans hS.old) fun a h=>s_on h rfl rfl (bt hc_4) <| s_strEq (b := (x0.Cmd.Key == x1.Cmd.Key)) h rfl rfl rfl (.inl ⟨rfl, rfl⟩) fun a h=>pt h rfl (bt hc_4) fun a h=>mv h rfl fun a h=>?_
     obtain ⟨hc_5, H⟩ | ⟨hc_5, H⟩ := ii H
     ·refine s_on h rfl rfl (bt hc_5) <| s_fieldAddr h rfl U26 rfl ti24 rfl rfl fun a h=>s_on h rfl rfl (bt hc_5) <| s_fieldAddr h rfl U24 rfl ti22 rfl rfl fun a h=>s_on h rfl rfl (bt hc_5) <| s_load h rfl rfl (hS.load_one (p := 1) rfl U22 rfl rfl) fun a h=>s_on h rfl rfl (bt hc_5) <| s_b2s h rfl U22 U5 U9 rfl hp0_1 (hA.trans hS.old) fun a h=>s_on h rfl rfl (bt hc_5) <| s_fieldAddr h rfl U26 rfl ti24 rfl rfl fun a h=>s_on h rfl rfl (bt hc_5) <| s_fieldAddr h rfl U24 rfl ti22 rfl rfl fun a h=>?_
      refine s_on h rfl rfl (bt hc_5) <| s_load h rfl rfl (hS.load_one (p := 2) rfl U22 rfl rfl) fun a h=>s_on h rfl rfl (bt hc_5) <| s_b2s h rfl U22 U5 U9 rfl hp1_4 (hA.trans hS.old) fun a h=>s_on h rfl rfl (bt hc_5) <| s_strEq (b := (x0.Cmd.Val == x1.Cmd.Val)) h rfl rfl rfl (.inl ⟨rfl, rfl⟩) fun a h=>pt h rfl (bt hc_5) fun a h=>mv h rfl fun a h=>?_
      obtain ⟨hc_6, H⟩ | ⟨hc_6, H⟩ := ii H
      ·refine s_on h rfl rfl (bt hc_6) <| s_fieldAddr h rfl U26 rfl ti24 rfl rfl fun a h=>s_on h rfl rfl (bt hc_6) <| s_fieldAddr h rfl U24 rfl ti22 rfl rfl fun a h=>s_on h rfl rfl (bt hc_6) <| s_load h rfl rfl (hS.load_one (p := 1) rfl U22 rfl rfl) fun a h=>s_on h rfl rfl (bt hc_6) <| s_b2s h rfl U22 U5 U9 rfl hp0_2 (hA.trans hS.old) fun a h=>s_on h rfl rfl (bt hc_6) <| s_fieldAddr h rfl U26 rfl ti24 rfl rfl fun a h=>s_on h rfl rfl (bt hc_6) <| s_fieldAddr h rfl U24 rfl ti22 rfl rfl fun a h=>?_
       refine s_on h rfl rfl (bt hc_6) <| s_load h rfl rfl (hS.load_one (p := 2) rfl U22 rfl rfl) fun a h=>s_on h rfl rfl (bt hc_6) <| s_b2s h rfl U22 U5 U9 rfl hp1_5 (hA.trans hS.old) fun a h=>s_on h rfl rfl (bt hc_6) <| s_strEq (b := (x0.Cmd.Old == x1.Cmd.Old)) h rfl rfl rfl (.inl ⟨rfl, rfl⟩) fun a h=>pt h rfl (bt hc_6) fun a h=>sg h rfl fun a h=>wpList_nil <| x_then_n (hKJ_1 _ _ ?_)
       refine wp_ret ?_
       obtain rfl := Option.some.inj H
       exact r1 h 4 rfl rfl ⟨_, rfl, Mem.no, rfl, (hS.sel [0] (by decide))⟩
      ·refine of h rfl rfl (bf hc_6) fun a h=>of h rfl rfl (bf hc_6) fun a h=>of h rfl rfl (bf hc_6) fun a h=>of h rfl rfl (bf hc_6) fun a h=>of h rfl rfl (bf hc_6) fun a h=>of h rfl rfl (bf hc_6) fun a h=>of h rfl rfl (bf hc_6) fun a h=>of h rfl rfl (bf hc_6) fun a h=>of h rfl rfl (bf hc_6) fun a h=>pf h rfl (bf hc_6) fun a h=>sg h rfl fun a h=>wpList_nil <| x_then_n (hKJ_1 _ _ ?_)
       refine wp_ret ?_
       obtain rfl := Option.some.inj H
       exact r1 h 4 rfl rfl ⟨_, rfl, Mem.no, rfl, (hS.sel [0] (by decide))⟩
     ·refine of h rfl rfl (bf hc_5) fun a h=>of h rfl rfl (bf hc_5) fun a h=>of h rfl rfl (bf hc_5) fun a h=>of h rfl rfl (bf hc_5) fun a h=>of h rfl rfl (bf hc_5) fun a h=>of h rfl rfl (bf hc_5) fun a h=>of h rfl rfl (bf hc_5) fun a h=>of h rfl rfl (bf hc_5) fun a h=>of h rfl rfl (bf hc_5) fun a h=>pf h rfl (bf hc_5) fun a h=>mv h rfl fun a h=>oo h rfl rfl fun a h=>?_
      refine oo h rfl rfl fun a h=>oo h rfl rfl fun a h=>oo h rfl rfl fun a h=>oo h rfl rfl fun a h=>oo h rfl rfl fun a h=>oo h rfl rfl fun a h=>oo h rfl rfl fun a h=>oo h rfl rfl fun a h=>pf h rfl rfl fun a h=>sg h rfl fun a h=>wpList_nil <| x_then_n (hKJ_1 _ _ ?_)
      refine wp_ret ?_
      obtain rfl := Option.some.inj H
      exact r1 h 4 rfl rfl ⟨_, rfl, Mem.no, rfl, (hS.sel [0] (by decide))⟩
    ·refine of h rfl rfl (bf hc_4) fun a h=>of h rfl rfl (bf hc_4) fun a h=>of h rfl rfl (bf hc_4) fun a h=>of h rfl rfl (bf hc_4) fun a h=>of h rfl rfl (bf hc_4) fun a h=>of h rfl rfl (bf hc_4) fun a h=>of h rfl rfl (bf hc_4) fun a h=>of h rfl rfl (bf hc_4) fun a h=>of h rfl rfl (bf hc_4) fun a h=>pf h rfl (bf hc_4) fun a h=>mv h rfl fun a h=>oo h rfl rfl fun a h=>?_
     refine oo h rfl rfl fun a h=>oo h rfl rfl fun a h=>oo h rfl rfl fun a h=>oo h rfl rfl fun a h=>oo h rfl rfl fun a h=>oo h rfl rfl fun a h=>oo h rfl rfl fun a h=>oo h rfl rfl fun a h=>pf h rfl rfl fun a h=>mv h rfl fun a h=>oo h rfl rfl fun a h=>oo h rfl rfl fun a h=>?_
     refine oo h rfl rfl fun a h=>oo h rfl rfl fun a h=>oo h rfl rfl fun a h=>oo h rfl rfl fun a h=>oo h rfl rfl fun a h=>oo h rfl rfl fun a h=>oo h rfl rfl fun a h=>pf h rfl rfl fun a h=>sg h rfl fun a h=>wpList_nil <| x_then_n (hKJ_1 _ _ ?_)
     refine wp_ret ?_
     obtain rfl := Option.some.inj H
     exact r1 h 4 rfl rfl ⟨_, rfl, Mem.no, rfl, (hS.sel [0] (by decide))⟩
   ·refine of h rfl rfl (bf hc_3) fun a h=>of h rfl rfl (bf hc_3) fun a h=>of h rfl rfl (bf hc_3) fun a h=>of h rfl rfl (bf hc_3) fun a h=>of h rfl rfl (bf hc_3) fun a h=>of h rfl rfl (bf hc_3) fun a h=>of h rfl rfl (bf hc_3) fun a h=>pf h rfl (bf hc_3) fun a h=>mv h rfl fun a h=>oo h rfl rfl fun a h=>oo h rfl rfl fun a h=>oo h rfl rfl fun a h=>?_
    refine oo h rfl rfl fun a h=>oo h rfl rfl fun a h=>oo h rfl rfl fun a h=>oo h rfl rfl fun a h=>oo h rfl rfl fun a h=>oo h rfl rfl fun a h=>pf h rfl rfl fun a h=>mv h rfl fun a h=>oo h rfl rfl fun a h=>oo h rfl rfl fun a h=>oo h rfl rfl fun a h=>oo h rfl rfl fun a h=>?_
    refine oo h rfl rfl fun a h=>oo h rfl rfl fun a h=>oo h rfl rfl fun a h=>oo h rfl rfl fun a h=>oo h rfl rfl fun a h=>pf h rfl rfl fun a h=>mv h rfl fun a h=>oo h rfl rfl fun a h=>oo h rfl rfl fun a h=>oo h rfl rfl fun a h=>oo h rfl rfl fun a h=>oo h rfl rfl fun a h=>?_
    refine oo h rfl rfl fun a h=>oo h rfl rfl fun a h=>oo h rfl rfl fun a h=>oo h rfl rfl fun a h=>pf h rfl rfl fun a h=>sg h rfl fun a h=>wpList_nil <| x_then_n (hKJ_1 _ _ ?_)
    refine wp_ret ?_
    obtain rfl := Option.some.inj H
    exact r1 h 4 rfl rfl ⟨_, rfl, Mem.no, rfl, (hS.sel [0] (by decide))⟩
  ·refine of h rfl rfl (bf hc_2) fun a h=>of h rfl rfl (bf hc_2) fun a h=>of h rfl rfl (bf hc_2) fun a h=>of h rfl rfl (bf hc_2) fun a h=>of h rfl rfl (bf hc_2) fun a h=>of h rfl rfl (bf hc_2) fun a h=>of h rfl rfl (bf hc_2) fun a h=>pf h rfl (bf hc_2) fun a h=>mv h rfl fun a h=>oo h rfl rfl fun a h=>oo h rfl rfl fun a h=>oo h rfl rfl fun a h=>?_
   refine oo h rfl rfl fun a h=>oo h rfl rfl fun a h=>oo h rfl rfl fun a h=>oo h rfl rfl fun a h=>pf h rfl rfl fun a h=>mv h rfl fun a h=>oo h rfl rfl fun a h=>oo h rfl rfl fun a h=>oo h rfl rfl fun a h=>oo h rfl rfl fun a h=>oo h rfl rfl fun a h=>oo h rfl rfl fun a h=>?_
   refine oo h rfl rfl fun a h=>oo h rfl rfl fun a h=>oo h rfl rfl fun a h=>pf h rfl rfl fun a h=>mv h rfl fun a h=>oo h rfl rfl fun a h=>oo h rfl rfl fun a h=>oo h rfl rfl fun a h=>oo h rfl rfl fun a h=>oo h rfl rfl fun a h=>oo h rfl rfl fun a h=>oo h rfl rfl fun a h=>?_
   refine oo h rfl rfl fun a h=>oo h rfl rfl fun a h=>pf h rfl rfl fun a h=>mv h rfl fun a h=>oo h rfl rfl fun a h=>oo h rfl rfl fun a h=>oo h rfl rfl fun a h=>oo h rfl rfl fun a h=>oo h rfl rfl fun a h=>oo h rfl rfl fun a h=>oo h rfl rfl fun a h=>oo h rfl rfl fun a h=>?_
   refine oo h rfl rfl fun a h=>pf h rfl rfl fun a h=>sg h rfl fun a h=>wpList_nil <| x_then_n (hKJ_1 _ _ ?_)
   refine wp_ret ?_
   obtain rfl := Option.some.inj H
   exact r1 h 4 rfl rfl ⟨_, rfl, Mem.no, rfl, (hS.sel [0] (by decide))⟩
 ·refine of h rfl rfl (bf hc_1) fun a h=>of h rfl rfl (bf hc_1) fun a h=>of h rfl rfl (bf hc_1) fun a h=>of h rfl rfl (bf hc_1) fun a h=>of h rfl rfl (bf hc_1) fun a h=>pf h rfl (bf hc_1) fun a h=>mv h rfl fun a h=>oo h rfl rfl fun a h=>oo h rfl rfl fun a h=>oo h rfl rfl fun a h=>oo h rfl rfl fun a h=>oo h rfl rfl fun a h=>?_
  refine oo h rfl rfl fun a h=>oo h rfl rfl fun a h=>pf h rfl rfl fun a h=>mv h rfl fun a h=>oo h rfl rfl fun a h=>oo h rfl rfl fun a h=>oo h rfl rfl fun a h=>oo h rfl rfl fun a h=>oo h rfl rfl fun a h=>oo h rfl rfl fun a h=>oo h rfl rfl fun a h=>pf h rfl rfl fun a h=>?_
  refine mv h rfl fun a h=>oo h rfl rfl fun a h=>oo h rfl rfl fun a h=>oo h rfl rfl fun a h=>oo h rfl rfl fun a h=>oo h rfl rfl fun a h=>oo h rfl rfl fun a h=>oo h rfl rfl fun a h=>oo h rfl rfl fun a h=>oo h rfl rfl fun a h=>pf h rfl rfl fun a h=>mv h rfl fun a h=>?_
  refine oo h rfl rfl fun a h=>oo h rfl rfl fun a h=>oo h rfl rfl fun a h=>oo h rfl rfl fun a h=>oo h rfl rfl fun a h=>oo h rfl rfl fun a h=>oo h rfl rfl fun a h=>oo h rfl rfl fun a h=>oo h rfl rfl fun a h=>pf h rfl rfl fun a h=>mv h rfl fun a h=>oo h rfl rfl fun a h=>?_
  refine oo h rfl rfl fun a h=>oo h rfl rfl fun a h=>oo h rfl rfl fun a h=>oo h rfl rfl fun a h=>oo h rfl rfl fun a h=>oo h rfl rfl fun a h=>oo h rfl rfl fun a h=>oo h rfl rfl fun a h=>pf h rfl rfl fun a h=>sg h rfl fun a h=>wpList_nil <| x_then_n (hKJ_1 _ _ ?_)
  refine wp_ret ?_
  obtain rfl := Option.some.inj H
  exact r1 h 4 rfl rfl ⟨_, rfl, Mem.no, rfl, (hS.sel [0] (by decide))⟩

set_option maxHeartbeats 4000000 in
set_option maxRecDepth 20000 in
theorem hocketref4_SameEntries.calls (K : Nat) (x0 : List api_Entry) (p0_0 : Value) (x1 : List api_Entry) (p1_1 : Value) (r : Bool) (w0 w : World) (Z A : Mem) (hA : A.le Z) (hS : Sep w0 w [] Z) (hp0_0 : Rd k_api_Entry A p0_0 x0) (hp1_1 : Rd k_api_Entry A p1_1 x1)
    (H : hocketref4_SameEntries.f K x0 x1 = some r) :
    Calls Try.prog 42 [p0_0, p1_1].toArray w (Ret fun v w' => ∃ (N : Mem), v = .bool r ∧ Sep w0 w' [N] Z) := by
 unfold hocketref4_SameEntries.f at H
 refine f_enter _ Try.func42 rfl Try.ntmps42 rfl fun a h=>?_
 replace h : Fr 27 a [(0, p0_0), (1, p1_1)] := h
 replace hS := hS.start
 refine qr <| sg h rfl fun a h=>nx <| c_seq fun KJ_1 hKJ_1 => qr <| mv h rfl fun a h=>s_len h rfl U27 rfl hp0_0 fun a h=>mv h rfl fun a h=>s_len h rfl U27 rfl hp1_1 fun a h=>?_
 refine s_cmp (b := ((x0.length : Int) != (x1.length : Int))) h rfl rfl rfl (.inr (.inl ⟨rfl, rfl⟩)) fun a h=>wpList_nil <| x_then_n ?_
 obtain ⟨hc_1, H⟩ | ⟨hc_1, H⟩ := ii H
 ·refine c_cond_f h rfl (xf hc_1) <| wp_skip <| x_then_n (hKJ_1 _ _ ?_)
  refine c_seq fun KJ_2 hKJ_2 => qr <| sg h rfl fun a h=>wpList_nil <| x_then_n ?_
  have hJ_j_1 : hocketref4_SameEntries.J1 K = some r → ∀ (a : Act) (w_1 : World), (∃ (N_1 : Mem), Fr 27 a [(4, .bool false)] ∧ Sep w0 w_1 [N_1] Z ∧ Mem.no.le N_1) → KJ_2 a w_1 := by
   clear H h hS a
   rintro H a w_1 ⟨N_1, h, hS, le_1⟩
   unfold hocketref4_SameEntries.J1 at H
   refine hKJ_2 _ _ <| qr <| sg h rfl fun a h=>wpList_nil ?_
   replace h : Fr 27 a [(4, .bool true)] := h.keep [4]
   refine x_then_n <| wp_ret ?_
   obtain rfl := Option.some.inj H
   exact r1 h 4 rfl rfl ⟨_, rfl, N_1, rfl, (hS.sel [0] (by decide))⟩
  clear hKJ_2
  refine c_block <| c_loop (fun k_1 a w_2 => ∃ (x_1 : Int) (N_2 : Mem), hocketref4_SameEntries.L1 K x0 x1 (fun v => hocketref4_SameEntries.J1 K) k_1 x_1 = some r ∧ Fr 27 a [(0, p0_0), (1, p1_1), (4, .bool false), (5, iV x_1)] ∧ Sep w0 w_2 [N_2] Z ∧ Mem.no.le N_2) K ⟨0, Mem.no, H, (h.to rfl), (hS.sel [0] (by decide)), mr⟩ (fun a w h => by obtain ⟨_, _, H, _⟩ := h; cases (show (none : Option (Bool)) = some r from H)) ?_
  clear h hS a H
  rintro k_1 a w_2 KL_1 hKL_1 ⟨x_1, N_2, H, h, hS, le_2⟩
  replace H : hocketref4_SameEntries.B1 K x0 x1 (fun v => hocketref4_SameEntries.J1 K) (hocketref4_SameEntries.L1 K x0 x1 (fun v => hocketref4_SameEntries.J1 K) k_1) x_1 = some r := H
  unfold hocketref4_SameEntries.B1 at H
  refine c_seq fun KJ_3 hKJ_3 => qr <| mv h rfl fun a h=>mv h rfl fun a h=>s_len h rfl U27 rfl hp0_0 fun a h=>s_cmp (b := decide (x_1 < (x0.length : Int))) h rfl rfl rfl (.inr (.inr (.inl ⟨rfl, rfl⟩))) fun a h=>wpList_nil ?_
  replace h : Fr 27 a [(0, _), (1, _), (4, _), (5, _), (14, .bool (decide (x_1 < (x0.length : Int))))] := h.keep [0, 1, 4, 5, 14]
  refine x_then_n ?_
  obtain ⟨hc_2, H⟩ | ⟨hc_2, H⟩ := ii H
  ·refine c_cond_t h rfl (dt hc_2) <| wp_skip <| x_then_n (hKJ_3 _ _ ?_)
   refine c_seq fun KJ_4 hKJ_4 => c_block <| c_seq fun KJ_5 hKJ_5 => h_begin (S := fun w => Sep w0 w [N_2] Z) 10 (by kernel_rfl) rfl (bA 10 0) (by kernel_rfl) hS fun w_3 hS => ?_
   refine t_take 0 (bA 10 1) rfl rfl rfl rfl h (hS.sub .ii) (v := p0_0) (fun w hS => r_move h rfl) fun a h=>t_take 1 (bA 10 3) rfl rfl rfl rfl h (hS.sub .ii) (v := iV x_1) (fun w hS => r_move h rfl) fun a h=>?_
   obtain ⟨t_1, et_1, H⟩ := bs H
   refine t_takeE 2 (bA 10 7) rfl rfl rfl rfl h (hS.sub .ii) (f := fun ad => .pointer (some ad)) (r_index h U27 ti26 rfl rfl rfl hp0_0 et_1) ?_
   rintro ad_1 ⟨cs_1, hk_1, hc_3⟩
   obtain ⟨v_1, v_2, v_3, rfl, hr_1, hr_2, hr_3⟩ := k_api_Entry.open' hk_1
   intro a h
   refine t_take 3 (bA 10 15) rfl rfl rfl rfl h (hS.sub .ii) (v := .agg (E26 t_1 v_1 v_2 v_3).toArray) (fun w hS => r_load h rfl (el_agg (o := 0) (us := (E26 t_1 v_1 v_2 v_3)) (fun j c h => Mem.cell_le (hA.trans hS.old) (hc_3 j c h)) U26 rfl ti26 rfl rfl)) fun a h=>t_take 4 (bA 10 31) rfl rfl rfl rfl h (hS.sub .ii) (v := p1_1) (fun w hS => r_move h rfl) fun a h=>t_take 5 (bA 10 63) rfl rfl rfl rfl h (hS.sub .ii) (v := iV x_1) (fun w hS => r_move h rfl) fun a h=>?_
   obtain ⟨t_2, et_2, H⟩ := bs H
   refine t_takeE 6 (bA 10 127) rfl rfl rfl rfl h (hS.sub .ii) (f := fun ad => .pointer (some ad)) (r_index h U27 ti26 rfl rfl rfl hp1_1 et_2) ?_
   rintro ad_2 ⟨cs_2, hk_2, hc_4⟩
   obtain ⟨v_4, v_5, v_6, rfl, hr_4, hr_5, hr_6⟩ := k_api_Entry.open' hk_2
   intro a h
   refine t_take 7 (bA 10 255) rfl rfl rfl rfl h (hS.sub .ii) (v := .agg (E26 t_2 v_4 v_5 v_6).toArray) (fun w hS => r_load h rfl (el_agg (o := 0) (us := (E26 t_2 v_4 v_5 v_6)) (fun j c h => Mem.cell_le (hA.trans hS.old) (hc_4 j c h)) U26 rfl ti26 rfl rfl)) fun a h=>h_event 8 (bA 10 511) rfl (by kernel_rfl) (by kernel_rfl) ?_
   obtain ⟨t_3, et_3, H⟩ := bs H
   refine s_call h rfl Try.call64 rfl (hocketref4_SameEntry.calls t_1 _ _ _ t_2 _ _ _ t_3 w0 _ _ _ mr (hS.enter [] (by decide)) (hr_1.mono (hA.trans (hS.le_zed []))) (hr_2.mono (hA.trans (hS.le_zed []))) (hr_3.mono (hA.trans (hS.le_zed []))) (hr_4.mono (hA.trans (hS.le_zed []))) (hr_5.mono (hA.trans (hS.le_zed []))) (hr_6.mono (hA.trans (hS.le_zed []))) et_3) ?_
   rintro _ w_4 ⟨N_3, rfl, hS'⟩
   intro a h
   obtain ⟨N_4, hS'', le_3, ln_1⟩ := hS.call [] (by decide) rfl (l' := []) (ow := []) rfl hS'
   replace hS : Sep w0 w_4 [N_4] Z := hS''
   refine ne (hS.sub (.cons le_3 .ii)) fun hs => ?_
   refine t_take 9 (bA 10 1023) rfl rfl rfl rfl h hs (v := .bool (!t_3)) (fun w hS => r_not h rfl) fun a h=>h_done (by kernel_rfl) <| x_then_n (hKJ_5 _ _ ?_)
   obtain ⟨hc_5, H⟩ | ⟨hc_5, H⟩ := ii H
   ·refine c_cond_f h rfl (nf hc_5) <| wp_skip <| x_block_n <| x_then_n (hKJ_4 _ _ ?_)
    refine wp_region_lit <| mv h rfl fun a h=>s_arith (r := w64 (x_1 + 1)) h rfl rfl rfl (.inl ⟨rfl, rfl⟩) fun a h=>sg h rfl fun a h=>wpList_nil <| x_then_n (hKL_1 _ _ ?_)
    exact ⟨w64 (x_1 + 1), N_4, H, (h.to rfl), (hS.sel [0] (by decide)), (le_2.trans le_3)⟩
   ·refine c_cond_t h rfl (nt (ef hc_5)) <| qr <| sg h rfl fun a h=>nx <| wp_ret (x_block_r (x_then_r (x_then_r (x_block_r (x_then_r ?_)))))
    obtain rfl := Option.some.inj H
    exact r1 h 4 rfl rfl ⟨_, rfl, N_4, rfl, (hS.sel [0] (by decide))⟩
  ·refine c_cond_f h rfl (df hc_2) <| wp_exit (x_then_x (x_then_x (x_block_t ?_)))
   exact x_then_n (hJ_j_1  H _ _ ⟨N_2, (h.to rfl), (hS.sel [0] (by decide)), le_2⟩)
 ·refine c_cond_t h rfl (xt hc_1) <| qr <| sg h rfl fun a h=>nx <| wp_ret (x_then_r ?_)
  obtain rfl := Option.some.inj H
  exact r1 h 4 rfl rfl ⟨_, rfl, Mem.no, rfl, (hS.sel [0] (by decide))⟩

set_option maxHeartbeats 4000000 in
set_option maxRecDepth 20000 in
theorem hocketref15_Same.calls (K : Nat) (x0 : api_State) (p0_0 : Value) (p0_1 : Value) (p0_2 : Value) (p0_3 : Value) (p0_4 : Value) (p0_5 : Value) (x1 : api_State) (p1_6 : Value) (p1_7 : Value) (p1_8 : Value) (p1_9 : Value) (p1_10 : Value) (p1_11 : Value) (r : Bool) (w0 w : World) (Z A : Mem) (hA : A.le Z) (hS : Sep w0 w [] Z) (hp0_0 : Rd Kd.u8 A p0_0 x0.Machine.Objects.Reg) (hp0_1 : Rd (Kd.slice Kd.u8) A p0_1 x0.Machine.Objects.Queue) (hp0_2 : Rd (Kd.int .i64) A p0_2 x0.Machine.Objects.Lock) (hp0_3 : Rd k_api_Pair A p0_3 x0.Machine.Objects.Map) (hp0_4 : Rd k_api_Last A p0_4 x0.Machine.Table) (hp0_5 : Rd k_api_Entry A p0_5 x0.Rest) (hp1_6 : Rd Kd.u8 A p1_6 x1.Machine.Objects.Reg) (hp1_7 : Rd (Kd.slice Kd.u8) A p1_7 x1.Machine.Objects.Queue) (hp1_8 : Rd (Kd.int .i64) A p1_8 x1.Machine.Objects.Lock) (hp1_9 : Rd k_api_Pair A p1_9 x1.Machine.Objects.Map) (hp1_10 : Rd k_api_Last A p1_10 x1.Machine.Table) (hp1_11 : Rd k_api_Entry A p1_11 x1.Rest)
    (H : hocketref15_Same.f K x0 x1 = some r) :
    Calls Try.prog 16 [.agg ([iV x0.At, p0_0, p0_1, p0_2, p0_3, p0_4, p0_5] : List Value).toArray, .agg ([iV x1.At, p1_6, p1_7, p1_8, p1_9, p1_10, p1_11] : List Value).toArray].toArray w (Ret fun v w' => ∃ (N : Mem), v = .bool r ∧ Sep w0 w' [N] Z) := by
 unfold hocketref15_Same.f at H
 refine f_enter _ Try.func16 rfl Try.ntmps16 rfl fun a h=>?_
 replace h : Fr 24 a [(0, .agg ([iV x0.At, p0_0, p0_1, p0_2, p0_3, p0_4, p0_5] : List Value).toArray), (1, .agg ([iV x1.At, p1_6, p1_7, p1_8, p1_9, p1_10, p1_11] : List Value).toArray)] := h
 replace hS := hS.start
 refine qr <| v_box (vs := [iV x0.At, p0_0, p0_1, p0_2, p0_3, p0_4, p0_5]) h rfl rfl rfl hS fun w_1 g_1 hS' a h => ?_
 replace hS : Sep w0 w_1 [_, bx g_1 37 [iV x0.At, p0_0, p0_1, p0_2, p0_3, p0_4, p0_5]] Z := hS'
 refine v_box (vs := [iV x1.At, p1_6, p1_7, p1_8, p1_9, p1_10, p1_11]) h rfl rfl rfl hS fun w_2 g_2 hS' a h => ?_
 replace hS : Sep w0 w_2 [_, _, bx g_2 37 [iV x1.At, p1_6, p1_7, p1_8, p1_9, p1_10, p1_11]] Z := hS'
 refine sg h rfl fun a h=>nx <| c_seq fun KJ_1 hKJ_1 => wp_region_lit <| s_fieldAddr h rfl U37 rfl ti3 rfl rfl fun a h=>s_load h rfl rfl (hS.load_one (p := 1) rfl U3 rfl rfl) fun a h=>s_fieldAddr h rfl U37 rfl ti3 rfl rfl fun a h=>s_load h rfl rfl (hS.load_one (p := 2) rfl U3 rfl rfl) fun a h=>s_cmp (b := (x0.At == x1.At)) h rfl rfl rfl (.inl ⟨rfl, rfl⟩) fun a h=>mv h rfl fun a h=>?_
 obtain ⟨hc_1, H⟩ | ⟨hc_1, H⟩ := ii H
 ·refine s_on h rfl rfl (bt hc_1) <| s_fieldAddr h rfl U37 rfl ti35 rfl rfl fun a h=>s_on h rfl rfl (bt hc_1) <| s_load h rfl rfl (hS.load_agg (p := 1) (us := [p0_0, p0_1, p0_2, p0_3, p0_4]) rfl U35 rfl ti35 rfl rfl) fun a h=>s_on h rfl rfl (bt hc_1) <| s_fieldAddr h rfl U37 rfl ti35 rfl rfl fun a h=>s_on h rfl rfl (bt hc_1) <| s_load h rfl rfl (hS.load_agg (p := 2) (us := [p1_6, p1_7, p1_8, p1_9, p1_10]) rfl U35 rfl ti35 rfl rfl) fun a h=>s_on h rfl rfl (bt hc_1) ?_
  obtain ⟨t_1, et_1, H⟩ := bs H
  refine s_call h rfl Try.call18 rfl (hocketref4_Same.calls K x0.Machine _ _ _ _ _ x1.Machine _ _ _ _ _ t_1 w0 _ _ _ mr (hS.enter [] (by decide)) (hp0_0.mono (hA.trans (hS.le_zed []))) (hp0_1.mono (hA.trans (hS.le_zed []))) (hp0_2.mono (hA.trans (hS.le_zed []))) (hp0_3.mono (hA.trans (hS.le_zed []))) (hp0_4.mono (hA.trans (hS.le_zed []))) (hp1_6.mono (hA.trans (hS.le_zed []))) (hp1_7.mono (hA.trans (hS.le_zed []))) (hp1_8.mono (hA.trans (hS.le_zed []))) (hp1_9.mono (hA.trans (hS.le_zed []))) (hp1_10.mono (hA.trans (hS.le_zed []))) et_1) ?_
  rintro _ w_3 ⟨N_1, rfl, hS'⟩
  intro a h
  obtain ⟨N_2, hS'', le_1, ln_1⟩ := hS.call [] (by decide) rfl (l' := []) (ow := []) rfl hS'
  replace hS : Sep w0 w_3 [N_2, _, _] Z := hS''
  refine pt h rfl (bt hc_1) fun a h=>mv h rfl fun a h=>?_
  obtain ⟨hc_2, H⟩ | ⟨hc_2, H⟩ := ii H
  ·refine s_on h rfl rfl hc_2 <| s_fieldAddr h rfl U37 rfl ti27 rfl rfl fun a h=>s_on h rfl rfl hc_2 <| s_load h rfl rfl (hS.load_one (p := 1) rfl U27 rfl rfl) fun a h=>s_on h rfl rfl hc_2 <| s_fieldAddr h rfl U37 rfl ti27 rfl rfl fun a h=>s_on h rfl rfl hc_2 <| s_load h rfl rfl (hS.load_one (p := 2) rfl U27 rfl rfl) fun a h=>s_on h rfl rfl hc_2 ?_
   obtain ⟨t_2, et_2, H⟩ := bs H
   refine s_call h rfl Try.call42 rfl (hocketref4_SameEntries.calls K x0.Rest _ x1.Rest _ t_2 w0 _ _ _ mr (hS.enter [] (by decide)) (hp0_5.mono (hA.trans (hS.le_zed []))) (hp1_11.mono (hA.trans (hS.le_zed []))) et_2) ?_
   rintro _ w_4 ⟨N_3, rfl, hS'⟩
   intro a h
   obtain ⟨N_4, hS'', le_2, ln_2⟩ := hS.call [] (by decide) rfl (l' := []) (ow := []) rfl hS'
   replace hS : Sep w0 w_4 [N_4, _, _] Z := hS''
   refine pt h rfl hc_2 fun a h=>sg h rfl fun a h=>wpList_nil <| x_then_n (hKJ_1 _ _ ?_)
   refine wp_ret ?_
   obtain rfl := Option.some.inj H
   exact r1 h 4 rfl rfl ⟨_, rfl, N_4, rfl, (hS.sel [0] (by decide))⟩
  ·refine of h rfl rfl (ef hc_2) fun a h=>of h rfl rfl (ef hc_2) fun a h=>of h rfl rfl (ef hc_2) fun a h=>of h rfl rfl (ef hc_2) fun a h=>of h rfl rfl (ef hc_2) fun a h=>pf h rfl (ef hc_2) fun a h=>sg h rfl fun a h=>wpList_nil <| x_then_n (hKJ_1 _ _ ?_)
   refine wp_ret ?_
   obtain rfl := Option.some.inj H
   exact r1 h 4 rfl rfl ⟨_, rfl, N_2, rfl, (hS.sel [0] (by decide))⟩
 ·refine of h rfl rfl (bf hc_1) fun a h=>of h rfl rfl (bf hc_1) fun a h=>of h rfl rfl (bf hc_1) fun a h=>of h rfl rfl (bf hc_1) fun a h=>of h rfl rfl (bf hc_1) fun a h=>pf h rfl (bf hc_1) fun a h=>mv h rfl fun a h=>oo h rfl rfl fun a h=>oo h rfl rfl fun a h=>oo h rfl rfl fun a h=>oo h rfl rfl fun a h=>oo h rfl rfl fun a h=>?_
  refine pf h rfl rfl fun a h=>sg h rfl fun a h=>wpList_nil <| x_then_n (hKJ_1 _ _ ?_)
  refine wp_ret ?_
  obtain rfl := Option.some.inj H
  exact r1 h 4 rfl rfl ⟨_, rfl, Mem.no, rfl, (hS.sel [0] (by decide))⟩

set_option maxHeartbeats 4000000 in
set_option maxRecDepth 20000 in
theorem hocketlaw7_Keys.calls (x0 : Int) (r : (List UInt8)) (w0 w : World) (Z A : Mem) (hA : A.le Z) (hS : Sep w0 w [] Z)
    (H : hocketlaw7_Keys.f x0 = some r) :
    Calls Try.prog 83 [iV x0].toArray w (Ret fun v w' => ∃ (u0 : Value) (N : Mem), v = u0 ∧ Sep w0 w' [N] Z ∧ Rd Kd.u8 N u0 r) := by
 unfold hocketlaw7_Keys.f at H
 refine f_enter _ Try.func83 rfl Try.ntmps83 rfl fun a h=>?_
 replace h : Fr 9 a [(0, iV x0)] := h
 replace hS := hS.start
 refine qr <| sg h rfl fun a h=>nx <| wp_seq <| wp_region_lit ?_
 have hq_1 : Reps Kd.str Mem.no ([([] : List UInt8), ([97] : List UInt8), ([98] : List UInt8), ([99] : List UInt8), ([97, 98] : List UInt8), ([97, 98, 99] : List UInt8), ([122] : List UInt8), ([0] : List UInt8), ([255] : List UInt8), ([97, 98, 99, 100, 101, 102, 103, 104] : List UInt8), ([97, 98, 99, 100, 101, 102, 103, 104, 105] : List UInt8), ([107, 49] : List UInt8), ([107, 50] : List UInt8), ([107, 51] : List UInt8), ([107, 52] : List UInt8), ([107, 53] : List UInt8)] : List (List UInt8)) _ := ((Reps.one (d := Kd.str) (x := ([] : List UInt8)) (show Kd.str.K _ _ [.string ⟨([] : List UInt8).toArray⟩] from rfl)).append ((Reps.one (d := Kd.str) (x := ([97] : List UInt8)) (show Kd.str.K _ _ [.string ⟨([97] : List UInt8).toArray⟩] from rfl)).append ((Reps.one (d := Kd.str) (x := ([98] : List UInt8)) (show Kd.str.K _ _ [.string ⟨([98] : List UInt8).toArray⟩] from rfl)).append ((Reps.one (d := Kd.str) (x := ([99] : List UInt8)) (show Kd.str.K _ _ [.string ⟨([99] : List UInt8).toArray⟩] from rfl)).append ((Reps.one (d := Kd.str) (x := ([97, 98] : List UInt8)) (show Kd.str.K _ _ [.string ⟨([97, 98] : List UInt8).toArray⟩] from rfl)).append ((Reps.one (d := Kd.str) (x := ([97, 98, 99] : List UInt8)) (show Kd.str.K _ _ [.string ⟨([97, 98, 99] : List UInt8).toArray⟩] from rfl)).append ((Reps.one (d := Kd.str) (x := ([122] : List UInt8)) (show Kd.str.K _ _ [.string ⟨([122] : List UInt8).toArray⟩] from rfl)).append ((Reps.one (d := Kd.str) (x := ([0] : List UInt8)) (show Kd.str.K _ _ [.string ⟨([0] : List UInt8).toArray⟩] from rfl)).append ((Reps.one (d := Kd.str) (x := ([255] : List UInt8)) (show Kd.str.K _ _ [.string ⟨([255] : List UInt8).toArray⟩] from rfl)).append ((Reps.one (d := Kd.str) (x := ([97, 98, 99, 100, 101, 102, 103, 104] : List UInt8)) (show Kd.str.K _ _ [.string ⟨([97, 98, 99, 100, 101, 102, 103, 104] : List UInt8).toArray⟩] from rfl)).append ((Reps.one (d := Kd.str) (x := ([97, 98, 99, 100, 101, 102, 103, 104, 105] : List UInt8)) (show Kd.str.K _ _ [.string ⟨([97, 98, 99, 100, 101, 102, 103, 104, 105] : List UInt8).toArray⟩] from rfl)).append ((Reps.one (d := Kd.str) (x := ([107, 49] : List UInt8)) (show Kd.str.K _ _ [.string ⟨([107, 49] : List UInt8).toArray⟩] from rfl)).append ((Reps.one (d := Kd.str) (x := ([107, 50] : List UInt8)) (show Kd.str.K _ _ [.string ⟨([107, 50] : List UInt8).toArray⟩] from rfl)).append ((Reps.one (d := Kd.str) (x := ([107, 51] : List UInt8)) (show Kd.str.K _ _ [.string ⟨([107, 51] : List UInt8).toArray⟩] from rfl)).append ((Reps.one (d := Kd.str) (x := ([107, 52] : List UInt8)) (show Kd.str.K _ _ [.string ⟨([107, 52] : List UInt8).toArray⟩] from rfl)).append ((Reps.one (d := Kd.str) (x := ([107, 53] : List UInt8)) (show Kd.str.K _ _ [.string ⟨([107, 53] : List UInt8).toArray⟩] from rfl)).append (Reps.nil Kd.str _)))))))))))))))))
 refine s_buildSlice h rfl U122 ti9 rfl rfl rfl (.cons rfl (.cons rfl (.cons rfl (.cons rfl (.cons rfl (.cons rfl (.cons rfl (.cons rfl (.cons rfl (.cons rfl (.cons rfl (.cons rfl (.cons rfl (.cons rfl (.cons rfl (.cons rfl .nil)))))))))))))))) rfl rfl rfl hS hq_1 rfl fun w_1 v_1 M_1 hS' ho_1 a h => ?_
 replace hS : Sep w0 w_1 [_, M_1] Z := hS'
 refine mv h rfl fun a h=>s_bits (i := x0) (j := 15) (r := band .i64 x0 15) h rfl rfl rfl (.inl ⟨rfl, rfl⟩) fun a h=>?_
 obtain ⟨t_1, et_1, H⟩ := bs H
 refine v_indexO h rfl U122 ti9 rfl rfl rfl ho_1 (hS.own 1) et_1 fun ad_1 cs_1 hk_1 hc_1 => ?_
 obtain rfl := (show cs_1 = [.string ⟨t_1.toArray⟩] from hk_1)
 intro a h
 refine s_load h rfl rfl (el_one (o := 0) hc_1 U9 rfl rfl) fun a h=>?_
 obtain ⟨u_1, eu_1, H⟩ := bs H
 refine s_s2b h rfl U9 U22 U5 rfl (must_some eu_1) hS fun w_2 v_2 M_2 hS' hr_1 a h => ?_
 obtain ⟨N_1, hS'', le_1, lo_1⟩ := Sep.freeze (l := [M_1, M_2]) hS' 1 rfl
 replace hS : Sep w0 w_2 [N_1, _, _] Z := hS''
 refine sg h rfl fun a h=>nx <| wp_ret ?_
 obtain rfl := Option.some.inj H
 exact r1 h 2 rfl rfl ⟨_, rfl, v_2, N_1, rfl, (hS.sel [0] (by decide)), (hr_1.mono lo_1)⟩

set_option maxHeartbeats 4000000 in
set_option maxRecDepth 20000 in
theorem hocketlaw8_Cmd.calls (x0 : Int) (r : api_Cmd) (w0 w : World) (Z A : Mem) (hA : A.le Z) (hS : Sep w0 w [] Z)
    (H : hocketlaw8_Cmd.f x0 = some r) :
    Calls Try.prog 62 [iV x0].toArray w (Ret fun v w' => ∃ (u0 : Value) (u1 : Value) (u2 : Value) (N : Mem), v = .agg (E24 r u0 u1 u2).toArray ∧ Sep w0 w' [N] Z ∧ Rd Kd.u8 N u0 r.Key ∧ Rd Kd.u8 N u1 r.Val ∧ Rd Kd.u8 N u2 r.Old) := by
 unfold hocketlaw8_Cmd.f at H
 refine f_enter _ Try.func62 rfl Try.ntmps62 rfl fun a h=>?_
 replace h : Fr 60 a [(0, iV x0)] := h
 replace hS := hS.start
 refine qr <| v_alloc h rfl ti24 hS fun w_1 g_1 hS' a h => ?_
 replace hS : Sep w0 w_1 [_, bx g_1 24 [iV 0, iV 0, nS, nS, nS]] Z := hS'
 refine nx <| wp_seq <| wp_region_lit ?_
 have hq_1 : Reps Kd.str Mem.no ([([] : List UInt8), ([97] : List UInt8), ([98] : List UInt8), ([97, 98] : List UInt8), ([118, 97, 108, 117, 101] : List UInt8), ([48, 49, 50, 51, 52, 53, 54, 55, 56, 57, 97, 98, 99, 100, 101, 102] : List UInt8), ([48, 49, 50, 51, 52, 53, 54, 55, 56, 57, 97, 98, 99, 100, 101, 102, 103] : List UInt8), ([0, 255] : List UInt8)] : List (List UInt8)) _ := ((Reps.one (d := Kd.str) (x := ([] : List UInt8)) (show Kd.str.K _ _ [.string ⟨([] : List UInt8).toArray⟩] from rfl)).append ((Reps.one (d := Kd.str) (x := ([97] : List UInt8)) (show Kd.str.K _ _ [.string ⟨([97] : List UInt8).toArray⟩] from rfl)).append ((Reps.one (d := Kd.str) (x := ([98] : List UInt8)) (show Kd.str.K _ _ [.string ⟨([98] : List UInt8).toArray⟩] from rfl)).append ((Reps.one (d := Kd.str) (x := ([97, 98] : List UInt8)) (show Kd.str.K _ _ [.string ⟨([97, 98] : List UInt8).toArray⟩] from rfl)).append ((Reps.one (d := Kd.str) (x := ([118, 97, 108, 117, 101] : List UInt8)) (show Kd.str.K _ _ [.string ⟨([118, 97, 108, 117, 101] : List UInt8).toArray⟩] from rfl)).append ((Reps.one (d := Kd.str) (x := ([48, 49, 50, 51, 52, 53, 54, 55, 56, 57, 97, 98, 99, 100, 101, 102] : List UInt8)) (show Kd.str.K _ _ [.string ⟨([48, 49, 50, 51, 52, 53, 54, 55, 56, 57, 97, 98, 99, 100, 101, 102] : List UInt8).toArray⟩] from rfl)).append ((Reps.one (d := Kd.str) (x := ([48, 49, 50, 51, 52, 53, 54, 55, 56, 57, 97, 98, 99, 100, 101, 102, 103] : List UInt8)) (show Kd.str.K _ _ [.string ⟨([48, 49, 50, 51, 52, 53, 54, 55, 56, 57, 97, 98, 99, 100, 101, 102, 103] : List UInt8).toArray⟩] from rfl)).append ((Reps.one (d := Kd.str) (x := ([0, 255] : List UInt8)) (show Kd.str.K _ _ [.string ⟨([0, 255] : List UInt8).toArray⟩] from rfl)).append (Reps.nil Kd.str _)))))))))
 refine s_buildSlice h rfl U122 ti9 rfl rfl rfl (.cons rfl (.cons rfl (.cons rfl (.cons rfl (.cons rfl (.cons rfl (.cons rfl (.cons rfl .nil)))))))) rfl rfl rfl hS hq_1 rfl fun w_2 v_1 M_1 hS' ho_1 a h => ?_
 replace hS : Sep w0 w_2 [_, _, M_1] Z := hS'
 refine mv h rfl fun a h=>s_shift (r := shr .i64 x0 5) h rfl rfl rfl (by decide) (.inr ⟨rfl, rfl⟩) fun a h=>s_bits (i := shr .i64 x0 5) (j := 7) (r := band .i64 (shr .i64 x0 5) 7) h rfl rfl rfl (.inl ⟨rfl, rfl⟩) fun a h=>?_
 obtain ⟨t_1, et_1, H⟩ := bs H
 refine v_indexO h rfl U122 ti9 rfl rfl rfl ho_1 (hS.own 2) et_1 fun ad_1 cs_1 hk_1 hc_1 => ?_
 obtain rfl := (show cs_1 = [.string ⟨t_1.toArray⟩] from hk_1)
 intro a h
 refine s_load h rfl rfl (el_one (o := 0) hc_1 U9 rfl rfl) fun a h=>?_
 obtain ⟨u_1, eu_1, H⟩ := bs H
 refine s_s2b h rfl U9 U22 U5 rfl (must_some eu_1) hS fun w_3 v_2 M_2 hS' hr_1 a h => ?_
 obtain ⟨N_1, hS'', le_1, lo_1⟩ := Sep.freeze (l := [bx g_1 24 [iV 0, iV 0, nS, nS, nS], M_1, M_2]) hS' 2 rfl
 replace hS : Sep w0 w_3 [N_1, _, _, _] Z := hS''
 refine sg h rfl fun a h=>nx <| c_seq fun KJ_1 hKJ_1 => ?_
 have hJ_j_1 : ∀ (x_1 : api_Cmd), hocketlaw8_Cmd.J1 x0 x_1 = some r → ∀ (a : Act) (w_4 : World), (∃ (v_3 : Value) (v_4 : Value) (v_5 : Value) (g_2 : Nat) (N_2 : Mem), Fr 60 a [(0, iV x0), (2, .pointer (some ⟨g_1, 0, none⟩)), (4, .pointer (some ⟨g_2, 0, none⟩))] ∧ Sep w0 w_4 [N_2, bx g_1 24 [iV 0, iV 0, nS, nS, nS], Mem.no, Mem.no, bx g_2 24 (E24 x_1 v_3 v_4 v_5)] Z ∧ N_1.le N_2 ∧ Rd Kd.u8 N_2 v_3 x_1.Key ∧ Rd Kd.u8 N_2 v_4 x_1.Val ∧ Rd Kd.u8 N_2 v_5 x_1.Old) → KJ_1 a w_4 := by
  clear H h hS a
  rintro x_1 H a w_4 ⟨v_3, v_4, v_5, g_2, N_2, h, hS, le_2, hr_2, hr_3, hr_4⟩
  unfold hocketlaw8_Cmd.J1 at H
  refine hKJ_1 _ _ <| c_seq fun KJ_2 hKJ_2 => c_seq fun KJ_3 hKJ_3 => ?_
  have hJ_j_2 : ∀ (x_2 : Bool), hocketlaw8_Cmd.J2 x0 x_1 x_2 = some r → ∀ (a : Act) (w_5 : World), (∃ (N_3 : Mem), Fr 60 a [(0, iV x0), (2, .pointer (some ⟨g_1, 0, none⟩)), (4, .pointer (some ⟨g_2, 0, none⟩)), (38, .bool x_2)] ∧ Sep w0 w_5 [N_3, bx g_1 24 [iV 0, iV 0, nS, nS, nS], Mem.no, Mem.no, bx g_2 24 (E24 x_1 v_3 v_4 v_5)] Z ∧ N_2.le N_3) → KJ_3 a w_5 := by
   clear H h hS a
   rintro x_2 H a w_5 ⟨N_3, h, hS, le_3⟩
   unfold hocketlaw8_Cmd.J2 at H
   refine hKJ_3 _ _ ?_
   have hJ_j_3 : ∀ (x_3 : Int), hocketlaw8_Cmd.J3 x0 x_1 x_3 = some r → ∀ (a : Act) (w_6 : World), (∃ (N_4 : Mem), Fr 60 a [(0, iV x0), (2, .pointer (some ⟨g_1, 0, none⟩)), (4, .pointer (some ⟨g_2, 0, none⟩))] ∧ Sep w0 w_6 [N_4, bx g_1 24 [iV 0, iV 0, nS, nS, nS], Mem.no, Mem.no, bx g_2 24 [iV x_3, iV x_1.Who, v_3, v_4, v_5]] Z ∧ N_3.le N_4) → KJ_2 a w_6 := by
    clear H h hS a
    rintro x_3 H a w_6 ⟨N_4, h, hS, le_4⟩
    unfold hocketlaw8_Cmd.J3 at H
    refine hKJ_2 _ _ <| c_seq fun KJ_4 hKJ_4 => qr <| mv h rfl fun a h=>s_shift (r := shr .i64 x0 19) h rfl rfl rfl (by decide) (.inr ⟨rfl, rfl⟩) fun a h=>s_bits (i := shr .i64 x0 19) (j := 31) (r := band .i64 (shr .i64 x0 19) 31) h rfl rfl rfl (.inl ⟨rfl, rfl⟩) fun a h=>s_cmp (b := ((band .i64 (shr .i64 x0 19) 31) == 0)) h rfl rfl rfl (.inl ⟨rfl, rfl⟩) fun a h=>wpList_nil <| x_then_n ?_
    obtain ⟨hc_2, H⟩ | ⟨hc_2, H⟩ := ii H
    ·refine c_cond_t h rfl (bt hc_2) <| qr <| mv h rfl fun a h=>s_shift (r := shr .i64 x0 24) h rfl rfl rfl (by decide) (.inr ⟨rfl, rfl⟩) fun a h=>s_bits (i := shr .i64 x0 24) (j := 31) (r := band .i64 (shr .i64 x0 24) 31) h rfl rfl rfl (.inl ⟨rfl, rfl⟩) fun a h=>s_fieldAddr h rfl U24 rfl ti3 rfl rfl fun a h=>?_
     refine sto 4 h rfl rfl hS rfl ti3 rfl rfl rfl (oz rfl) fun w_7 hS' => ?_
     replace hS : Sep w0 w_7 [_, _, _, _, bx g_2 24 [iV (band .i64 (shr .i64 x0 24) 31), _, _, _, _]] Z := hS'
     refine wpList_nil ?_
     replace h : Fr 60 a [(0, _), (2, _), (4, _)] := h.keep [0, 2, 4]
     refine x_then_n <| wp_region_lit <| mv h rfl fun a h=>s_shift (r := shr .i64 x0 17) h rfl rfl rfl (by decide) (.inr ⟨rfl, rfl⟩) fun a h=>s_bits (i := shr .i64 x0 17) (j := 2047) (r := band .i64 (shr .i64 x0 17) 2047) h rfl rfl rfl (.inl ⟨rfl, rfl⟩) fun a h=>s_arith (r := w64 ((band .i64 (shr .i64 x0 17) 2047) - 20)) h rfl rfl rfl (.inr (.inl ⟨rfl, rfl⟩)) fun a h=>s_fieldAddr h rfl U24 rfl ti3 rfl rfl fun a h=>?_
     refine sto 4 h rfl rfl hS rfl ti3 rfl rfl rfl (oz rfl) fun w_8 hS' => ?_
     replace hS : Sep w0 w_8 [_, _, _, _, Mem.one g_2 (.cells ([_, iV (w64 ((band .i64 (shr .i64 x0 17) 2047) - 20)), _, _, _] : List Value).toArray 24 (0, 0))] Z := hS'
     refine wpList_nil <| x_then_n (hKJ_4 _ _ ?_)
     refine qr <| s_load h rfl rfl (hS.load_agg (p := 4) (us := [iV (band .i64 (shr .i64 x0 24) 31), iV (w64 ((band .i64 (shr .i64 x0 17) 2047) - 20)), v_3, v_4, v_5]) rfl U24 rfl ti24 rfl rfl) fun a h=>?_
     refine sto 1 h rfl rfl hS rfl ti24 rfl rfl rfl (oa 2 rfl (oc hr_2.one (oc hr_3.one (oc hr_4.one on0)))) fun w_9 hS' => ?_
     replace hS : Sep w0 w_9 [_, Mem.one g_1 (.cells ([iV (band .i64 (shr .i64 x0 24) 31), iV (w64 ((band .i64 (shr .i64 x0 17) 2047) - 20)), v_3, v_4, v_5] : List Value).toArray 24 (0, 0)), _, _, _] Z := hS'
     refine nx <| wp_ret ?_
     obtain rfl := Option.some.inj H
     exact f_ret h (rs := [.cell 2 24]) rfl (.cell rfl (hS.load_agg (p := 1) (us := [iV (band .i64 (shr .i64 x0 24) 31), iV (w64 ((band .i64 (shr .i64 x0 17) 2047) - 20)), v_3, v_4, v_5]) rfl U24 rfl ti24 rfl rfl) .nil) ⟨_, rfl, v_3, v_4, v_5, N_4, rfl, (hS.sel [0] (by decide)), (hr_2.mono (le_3.trans le_4)), (hr_3.mono (le_3.trans le_4)), (hr_4.mono (le_3.trans le_4))⟩
    ·refine c_cond_f h rfl (bf hc_2) <| wp_skip <| x_then_n (hKJ_4 _ _ ?_)
     refine qr <| s_load h rfl rfl (hS.load_agg (p := 4) (us := [iV x_3, iV x_1.Who, v_3, v_4, v_5]) rfl U24 rfl ti24 rfl rfl) fun a h=>?_
     refine sto 1 h rfl rfl hS rfl ti24 rfl rfl rfl (oa 2 rfl (oc hr_2.one (oc hr_3.one (oc hr_4.one on0)))) fun w_10 hS' => ?_
     replace hS : Sep w0 w_10 [_, bx g_1 24 [iV x_3, iV x_1.Who, v_3, v_4, v_5], _, _, _] Z := hS'
     refine wpList_nil ?_
     replace h : Fr 60 a [(2, _)] := h.keep [2]
     refine x_then_n <| wp_ret ?_
     obtain rfl := Option.some.inj H
     exact f_ret h (rs := [.cell 2 24]) rfl (.cell rfl (hS.load_agg (p := 1) (us := [iV x_3, iV x_1.Who, v_3, v_4, v_5]) rfl U24 rfl ti24 rfl rfl) .nil) ⟨_, rfl, v_3, v_4, v_5, N_4, rfl, (hS.sel [0] (by decide)), (hr_2.mono (le_3.trans le_4)), (hr_3.mono (le_3.trans le_4)), (hr_4.mono (le_3.trans le_4))⟩
   clear hKJ_2
   obtain ⟨hc_3, H⟩ | ⟨hc_3, H⟩ := ii H
   ·refine c_cond_t h rfl hc_3 <| wp_region_lit ?_
    have hq_2 : Reps (Kd.int .i64) Mem.no ([1, 2, 4, 9] : List Int) _ := ((Reps.one (d := (Kd.int .i64)) (x := 1) (show (Kd.int .i64).K _ _ [iV 1] from rfl)).append ((Reps.one (d := (Kd.int .i64)) (x := 2) (show (Kd.int .i64).K _ _ [iV 2] from rfl)).append ((Reps.one (d := (Kd.int .i64)) (x := 4) (show (Kd.int .i64).K _ _ [iV 4] from rfl)).append ((Reps.one (d := (Kd.int .i64)) (x := 9) (show (Kd.int .i64).K _ _ [iV 9] from rfl)).append (Reps.nil (Kd.int .i64) _)))))
    refine s_buildSlice h rfl U29 ti3 rfl rfl rfl (.cons rfl (.cons rfl (.cons rfl (.cons rfl .nil)))) rfl rfl rfl hS hq_2 rfl fun w_11 v_6 M_3 hS' ho_2 a h => ?_
    replace hS : Sep w0 w_11 [_, _, _, _, _, M_3] Z := hS'
    refine mv h rfl fun a h=>s_shift (r := shr .i64 x0 17) h rfl rfl rfl (by decide) (.inr ⟨rfl, rfl⟩) fun a h=>s_bits (i := shr .i64 x0 17) (j := 3) (r := band .i64 (shr .i64 x0 17) 3) h rfl rfl rfl (.inl ⟨rfl, rfl⟩) fun a h=>?_
    obtain ⟨t_2, et_2, H⟩ := bs H
    refine v_indexO h rfl U29 ti3 rfl rfl rfl ho_2 (hS.own 5) et_2 fun ad_2 cs_2 hk_2 hc_4 => ?_
    obtain rfl := (show cs_2 = [iV t_2] from hk_2)
    intro a h
    refine s_load h rfl rfl (el_one (o := 0) hc_4 U3 rfl rfl) fun a h=>s_fieldAddr h rfl U24 rfl ti3 rfl rfl fun a h=>?_
    refine sto 4 h rfl rfl hS rfl ti3 rfl rfl rfl (oz rfl) fun w_12 hS' => ?_
    replace hS : Sep w0 w_12 [_, _, _, _, bx g_2 24 [iV t_2, _, _, _, _], _] Z := hS'
    refine wpList_nil ?_
    exact x_then_n (hJ_j_3 t_2 H _ _ ⟨N_3, (h.to rfl), (hS.sel [0, 1, 1001, 1002, 4] (by decide)), mr⟩)
   ·refine c_cond_f h rfl (ef hc_3) <| wp_skip ?_
    exact x_then_n (hJ_j_3 x_1.Kind H _ _ ⟨N_3, (h.to rfl), (hS.sel [0, 1, 1001, 1002, 4] (by decide)), mr⟩)
  clear hKJ_3
  refine wp_region_lit <| s_fieldAddr h rfl U24 rfl ti3 rfl rfl fun a h=>s_load h rfl rfl (hS.load_one (p := 4) rfl U3 rfl rfl) fun a h=>s_cmp (b := (x_1.Kind == 0)) h rfl rfl rfl (.inl ⟨rfl, rfl⟩) fun a h=>mv h rfl fun a h=>?_
  obtain ⟨hc_5, H⟩ | ⟨hc_5, H⟩ := ii H
  ·refine of h rfl rfl (bt hc_5) fun a h=>of h rfl rfl (bt hc_5) fun a h=>of h rfl rfl (bt hc_5) fun a h=>pt h rfl (bt hc_5) fun a h=>wpList_nil ?_
   exact x_then_n (hJ_j_2 true H _ _ ⟨N_2, (h.to rfl), (hS.sel [0, 1, 1001, 1002, 4] (by decide)), mr⟩)
  ·refine s_on h rfl rfl (bf hc_5) <| s_fieldAddr h rfl U24 rfl ti3 rfl rfl fun a h=>s_on h rfl rfl (bf hc_5) <| s_load h rfl rfl (hS.load_one (p := 4) rfl U3 rfl rfl) fun a h=>s_on h rfl rfl (bf hc_5) <| s_cmp (b := (x_1.Kind == 12)) h rfl rfl rfl (.inl ⟨rfl, rfl⟩) fun a h=>pf h rfl (bf hc_5) fun a h=>wpList_nil ?_
   exact x_then_n (hJ_j_2 (x_1.Kind == 12) H _ _ ⟨N_2, (h.to rfl), (hS.sel [0, 1, 1001, 1002, 4] (by decide)), mr⟩)
 clear hKJ_1
 refine h_begin (S := fun w => Sep w0 w [N_1, bx g_1 24 [iV 0, iV 0, nS, nS, nS], M_1, Mem.no] Z) 21 (by kernel_rfl) rfl (bA 21 0) (by kernel_rfl) hS fun w_13 hS => ?_
 refine t_take 0 (bA 21 1) rfl rfl rfl rfl h (hS.sub (.cons mr (.rr (.rr (.zz .ii))))) (v := iV x0) (fun w hS => r_move h rfl) fun a h=>t_take 1 (bA 21 3) rfl rfl rfl rfl h (hS.sub (.cons mr (.rr (.rr (.zz .ii))))) (v := iV (band .i64 x0 31)) (fun w hS => r_bits (i := x0) (j := 31) (r := band .i64 x0 31) h rfl rfl (.inl ⟨rfl, rfl⟩)) fun a h=>t_take 2 (bA 21 7) rfl rfl rfl rfl h (hS.sub (.cons mr (.rr (.rr (.zz .ii))))) (v := iV (Int.tmod (band .i64 x0 31) 13)) (fun w hS => r_div (r := Int.tmod (band .i64 x0 31) 13) h rfl rfl (by decide) (.inr ⟨rfl, rfl⟩)) fun a h=>t_take 3 (bA 21 15) rfl rfl rfl rfl h (hS.sub (.cons mr (.rr (.rr (.zz .ii))))) (v := iV (w64 ((Int.tmod (band .i64 x0 31) 13) + 0))) (fun w hS => r_arith (r := w64 ((Int.tmod (band .i64 x0 31) 13) + 0)) h rfl rfl (.inl ⟨rfl, rfl⟩)) fun a h=>t_take 4 (bA 21 31) rfl rfl rfl rfl h (hS.sub (.cons mr (.rr (.rr (.zz .ii))))) (v := iV x0) (fun w hS => r_move h rfl) fun a h=>t_take 5 (bA 21 63) rfl rfl rfl rfl h (hS.sub (.cons mr (.rr (.rr (.zz .ii))))) (v := iV (shr .i64 x0 8)) (fun w hS => r_shift (r := shr .i64 x0 8) h rfl rfl (by decide) (.inr ⟨rfl, rfl⟩)) fun a h=>?_
 refine t_take 6 (bA 21 127) rfl rfl rfl rfl h (hS.sub (.cons mr (.rr (.rr (.zz .ii))))) (v := iV (band .i64 (shr .i64 x0 8) 7)) (fun w hS => r_bits (i := shr .i64 x0 8) (j := 7) (r := band .i64 (shr .i64 x0 8) 7) h rfl rfl (.inl ⟨rfl, rfl⟩)) fun a h=>t_take 7 (bA 21 255) rfl rfl rfl rfl h (hS.sub (.cons mr (.rr (.rr (.zz .ii))))) (v := iV x0) (fun w hS => r_move h rfl) fun a h=>t_take 8 (bA 21 511) rfl rfl rfl rfl h (hS.sub (.cons mr (.rr (.rr (.zz .ii))))) (v := iV (shr .i64 x0 11)) (fun w hS => r_shift (r := shr .i64 x0 11) h rfl rfl (by decide) (.inr ⟨rfl, rfl⟩)) fun a h=>t_take 10 (bA 21 1535) rfl rfl rfl rfl h (hS.sub (.cons mr (.rr (.rr (.zz .ii))))) (v := v_2) (fun w hS => r_move h rfl) fun a h=>t_take 12 (bA 21 5631) rfl rfl rfl rfl h (hS.sub (.cons mr (.rr (.rr (.zz .ii))))) (v := iV x0) (fun w hS => r_move h rfl) fun a h=>t_take 13 (bA 21 13823) rfl rfl rfl rfl h (hS.sub (.cons mr (.rr (.rr (.zz .ii))))) (v := iV (shr .i64 x0 15)) (fun w hS => r_shift (r := shr .i64 x0 15) h rfl rfl (by decide) (.inr ⟨rfl, rfl⟩)) fun a h=>?_
 refine t_take 14 (bA 21 30207) rfl rfl rfl rfl h (hS.sub (.cons mr (.rr (.rr (.zz .ii))))) (v := iV (band .i64 (shr .i64 x0 15) 3)) (fun w hS => r_bits (i := shr .i64 x0 15) (j := 3) (r := band .i64 (shr .i64 x0 15) 3) h rfl rfl (.inl ⟨rfl, rfl⟩)) fun a h=>?_
 obtain ⟨t_3, et_3, H⟩ := bs H
 obtain ⟨t_4, et_4, H⟩ := bs H
 obtain ⟨u_2, eu_2, H⟩ := bs H
 refine h_evs [9, 11, 19] (by kernel_rfl) ⟨⟨_, (bA 21 30719), rfl, by kernel_rfl, ?_⟩, ⟨_, (bA 21 32255), rfl, by kernel_rfl, ?_⟩, ⟨_, (bA 21 554495), rfl, by kernel_rfl, ?_⟩, trivial⟩
 ·refine s_call h rfl Try.call83 rfl (hocketlaw7_Keys.calls (shr .i64 x0 11) t_3 w0 _ _ _ mr (hS.enter [] (by decide))  et_3) ?_
  rintro v_7 w_14 ⟨_, N_5, rfl, hS', hr_5⟩
  intro a h
  obtain ⟨N_6, hS'', le_5, ln_1⟩ := hS.call [] (by decide) rfl (l' := []) (ow := []) rfl hS'
  replace hS : Sep w0 w_14 [N_6, _, _, _] Z := hS''
  refine ne (hS.sub (.cons le_5 (.rr (.rr (.zz .ii))))) fun hs => ?_
  refine h_evs [11, 19] (by kernel_rfl) ⟨⟨_, (bA 21 32767), rfl, by kernel_rfl, ?_⟩, ⟨_, (bA 21 555007), rfl, by kernel_rfl, ?_⟩, trivial⟩
  ·have hq_3 : Reps Kd.str Mem.no ([([] : List UInt8), ([97] : List UInt8), ([98] : List UInt8), ([97, 98] : List UInt8)] : List (List UInt8)) _ := ((Reps.one (d := Kd.str) (x := ([] : List UInt8)) (show Kd.str.K _ _ [.string ⟨([] : List UInt8).toArray⟩] from rfl)).append ((Reps.one (d := Kd.str) (x := ([97] : List UInt8)) (show Kd.str.K _ _ [.string ⟨([97] : List UInt8).toArray⟩] from rfl)).append ((Reps.one (d := Kd.str) (x := ([98] : List UInt8)) (show Kd.str.K _ _ [.string ⟨([98] : List UInt8).toArray⟩] from rfl)).append ((Reps.one (d := Kd.str) (x := ([97, 98] : List UInt8)) (show Kd.str.K _ _ [.string ⟨([97, 98] : List UInt8).toArray⟩] from rfl)).append (Reps.nil Kd.str _)))))
   refine s_buildSlice h rfl U122 ti9 rfl rfl rfl (.cons rfl (.cons rfl (.cons rfl (.cons rfl .nil)))) rfl rfl rfl hS hq_3 rfl fun w_15 v_8 M_4 hS' ho_3 a h => ?_
   replace hS : Sep w0 w_15 [_, _, _, _, M_4] Z := hS'
   refine ne (hS.sub (.cons le_5 (.rr (.rr (.zz .nn))))) fun hs => ?_
   refine t_takeE 15 (bA 21 65535) rfl rfl rfl rfl h (hS.sub (.cons le_5 (.rr (.rr (.zz .nn))))) (f := fun ad => .pointer (some ad)) (r_indexO h U122 ti9 rfl rfl rfl ho_3 et_4) ?_
   rintro ad_3 ⟨cs_3, hk_3, hc_6⟩
   obtain rfl := (show cs_3 = [.string ⟨t_4.toArray⟩] from hk_3)
   intro a h
   refine h_state fun GD_1 hGD_1 => ?_
   have hD_1 : ∀ (a : Act) (w_16 : World), (∃ (v_9 : Value) (g_3 : Nat) (N_7 : Mem), Fr 60 a [(0, iV x0), (2, .pointer (some ⟨g_1, 0, none⟩)), (4, .pointer (some ⟨g_3, 0, none⟩))] ∧ Sep w0 w_16 [N_7, bx g_1 24 [iV 0, iV 0, nS, nS, nS], M_1, Mem.no, M_4, Mem.one g_3 (.cells ([iV (w64 ((Int.tmod (band .i64 x0 31) 13) + 0)), iV (band .i64 (shr .i64 x0 8) 7), v_7, v_2, v_9] : List Value).toArray 24 (0, 0))] Z ∧ N_6.le N_7 ∧ Rd Kd.u8 N_7 v_9 t_4) → GD_1 0 (bA 21 2097151) a w_16 := by
    rintro a w_16 ⟨v_9, g_3, N_7, h, hS, le_6, hr_6⟩
    refine (hGD_1 _ _ _ _).2 <| h_done (by kernel_rfl) ?_
    exact x_then_n (hJ_j_1 (⟨w64 ((Int.tmod (band .i64 x0 31) 13) + 0), band .i64 (shr .i64 x0 8) 7, t_3, t_1, t_4⟩ : api_Cmd) H _ _ ⟨v_7, v_2, v_9, g_3, N_7, (h.to rfl), (hS.sel [0, 1, 1001, 1002, 5] (by decide)), (le_5.trans le_6), ((hr_5.mono ln_1).mono le_6), ((hr_1.mono lo_1).mono (le_5.trans le_6)), hr_6⟩)
   have hD_2 : ∀ (a : Act) (w_17 : World), (∃ (v_10 : Value) (g_4 : Nat) (N_8 : Mem), Fr 60 a [(0, iV x0), (2, .pointer (some ⟨g_1, 0, none⟩)), (4, .pointer (some ⟨g_4, 0, none⟩)), (30, .agg ([iV (w64 ((Int.tmod (band .i64 x0 31) 13) + 0)), iV (band .i64 (shr .i64 x0 8) 7), v_7, v_2, v_10] : List Value).toArray)] ∧ Sep w0 w_17 [N_8, bx g_1 24 [iV 0, iV 0, nS, nS, nS], M_1, Mem.no, M_4, bx g_4 24 [iV 0, iV 0, nS, nS, nS]] Z ∧ N_6.le N_8 ∧ Rd Kd.u8 N_8 v_10 t_4) → GD_1 1 (bA 21 1048575) a w_17 := by
    rintro a w_17 ⟨v_10, g_4, N_8, h, hS, le_7, hr_7⟩
    refine (hGD_1 _ _ _ _).2 <| h_events [20] (by kernel_rfl) (by simp) ?_
    intro i hi; simp only [List.mem_cons, List.not_mem_nil, or_false] at hi; rcases hi with rfl
    refine ⟨_, (bA 21 2097151), rfl, by kernel_rfl, ?_⟩
    refine sto 5 h rfl rfl hS rfl ti24 rfl rfl rfl (oa 2 rfl (oc (hr_5.mono ln_1).one (oc (hr_1.mono lo_1).one (oc hr_7.one on0)))) fun w_18 hS' => ?_
    replace hS : Sep w0 w_18 [_, _, _, _, _, Mem.one g_4 (.cells ([iV (w64 ((Int.tmod (band .i64 x0 31) 13) + 0)), iV (band .i64 (shr .i64 x0 8) 7), v_7, v_2, v_10] : List Value).toArray 24 (0, 0))] Z := hS'
    refine ne (hS.sub (.cons (le_5.trans le_7) (.rr (.rr (.zz .nn))))) fun hs => ?_
    exact (hGD_1 _ _ _ _).1 (hD_1 _ _ ⟨v_10, g_4, N_8, (h.to rfl), (hS.sel [0, 1, 2, 1002, 4, 5] (by decide)), le_7, hr_7⟩)
   have hD_3 : ∀ (a : Act) (w_19 : World), (∃ (v_11 : Value) (N_9 : Mem), Fr 60 a [(0, iV x0), (2, .pointer (some ⟨g_1, 0, none⟩)), (30, .agg ([iV (w64 ((Int.tmod (band .i64 x0 31) 13) + 0)), iV (band .i64 (shr .i64 x0 8) 7), v_7, v_2, v_11] : List Value).toArray)] ∧ Sep w0 w_19 [N_9, bx g_1 24 [iV 0, iV 0, nS, nS, nS], M_1, Mem.no, M_4] Z ∧ N_6.le N_9 ∧ Rd Kd.u8 N_9 v_11 t_4) → GD_1 2 (bA 21 524287) a w_19 := by
    rintro a w_19 ⟨v_11, N_9, h, hS, le_8, hr_8⟩
    refine (hGD_1 _ _ _ _).2 <| h_events [19] (by kernel_rfl) (by simp) ?_
    intro i hi; simp only [List.mem_cons, List.not_mem_nil, or_false] at hi; rcases hi with rfl
    refine ⟨_, (bA 21 1048575), rfl, by kernel_rfl, ?_⟩
    refine v_alloc h rfl ti24 hS fun w_20 g_5 hS' a h => ?_
    replace hS : Sep w0 w_20 [_, _, _, _, _, bx g_5 24 [iV 0, iV 0, nS, nS, nS]] Z := hS'
    refine ne (hS.sub (.cons (le_5.trans le_8) (.rr (.rr (.zz .nn))))) fun hs => ?_
    exact (hGD_1 _ _ _ _).1 (hD_2 _ _ ⟨v_11, g_5, N_9, (h.to rfl), (hS.sel [0, 1, 2, 1002, 4, 5] (by decide)), le_8, hr_8⟩)
   have hD_4 : ∀ (a : Act) (w_21 : World), (∃ (g_6 : Nat) (N_10 : Mem), Fr 60 a [(0, iV x0), (2, .pointer (some ⟨g_1, 0, none⟩)), (4, .pointer (some ⟨g_6, 0, none⟩)), (15, iV (w64 ((Int.tmod (band .i64 x0 31) 13) + 0))), (18, iV (band .i64 (shr .i64 x0 8) 7)), (21, v_7), (22, v_2), (28, .string ⟨t_4.toArray⟩)] ∧ Sep w0 w_21 [N_10, bx g_1 24 [iV 0, iV 0, nS, nS, nS], M_1, Mem.no, M_4, bx g_6 24 [iV 0, iV 0, nS, nS, nS]] Z ∧ N_6.le N_10) → GD_1 3 (bA 21 655359) a w_21 := by
    rintro a w_21 ⟨g_6, N_10, h, hS, le_9⟩
    refine (hGD_1 _ _ _ _).2 <| h_events [17] (by kernel_rfl) (by simp) ?_
    intro i hi; simp only [List.mem_cons, List.not_mem_nil, or_false] at hi; rcases hi with rfl
    refine ⟨_, (bA 21 786431), rfl, by kernel_rfl, ?_⟩
    refine s_s2b h rfl U9 U22 U5 rfl (must_some eu_2) hS fun w_22 v_12 M_5 hS' hr_9 a h => ?_
    obtain ⟨N_11, hS'', le_10, lo_2⟩ := Sep.freeze (l := [bx g_1 24 [iV 0, iV 0, nS, nS, nS], M_1, Mem.no, M_4, bx g_6 24 [iV 0, iV 0, nS, nS, nS], M_5]) hS' 5 rfl
    replace hS : Sep w0 w_22 [N_11, _, _, _, _, _, _] Z := hS''
    refine ne (hS.sub (.cons (le_5.trans (le_9.trans le_10)) (.rr (.rr (.zz .nn))))) fun hs => ?_
    refine t_take 18 (bA 21 1048575) rfl rfl rfl rfl h hs (v := .agg ([iV (w64 ((Int.tmod (band .i64 x0 31) 13) + 0)), iV (band .i64 (shr .i64 x0 8) 7), v_7, v_2, v_12] : List Value).toArray) (fun w hS => r_build h ti24 pl24 rfl (.cons rfl (.cons rfl (.cons (hr_5.mono ln_1).cells (.cons (hr_1.mono lo_1).cells (.cons (hr_9.mono lo_2).cells .nil))))) (cs := [iV (w64 ((Int.tmod (band .i64 x0 31) 13) + 0)), iV (band .i64 (shr .i64 x0 8) 7), v_7, v_2, v_12]) (by kernel_rfl)) fun a h=>?_
    exact (hGD_1 _ _ _ _).1 (hD_2 _ _ ⟨v_12, g_6, N_11, (h.to rfl), (hS.sel [0, 1, 2, 1002, 4, 5] (by decide)), (le_9.trans le_10), (hr_9.mono lo_2)⟩)
   have hD_5 : ∀ (a : Act) (w_23 : World), (∃ (N_12 : Mem), Fr 60 a [(0, iV x0), (2, .pointer (some ⟨g_1, 0, none⟩)), (15, iV (w64 ((Int.tmod (band .i64 x0 31) 13) + 0))), (18, iV (band .i64 (shr .i64 x0 8) 7)), (21, v_7), (22, v_2), (28, .string ⟨t_4.toArray⟩)] ∧ Sep w0 w_23 [N_12, bx g_1 24 [iV 0, iV 0, nS, nS, nS], M_1, Mem.no, M_4] Z ∧ N_6.le N_12) → GD_1 4 (bA 21 131071) a w_23 := by
    rintro a w_23 ⟨N_12, h, hS, le_11⟩
    refine (hGD_1 _ _ _ _).2 <| h_evs [17, 19] (by kernel_rfl) ⟨⟨_, (bA 21 262143), rfl, by kernel_rfl, ?_⟩, ⟨_, (bA 21 655359), rfl, by kernel_rfl, ?_⟩, trivial⟩
    ·refine s_s2b h rfl U9 U22 U5 rfl (must_some eu_2) hS fun w_24 v_13 M_6 hS' hr_10 a h => ?_
     obtain ⟨N_13, hS'', le_12, lo_3⟩ := Sep.freeze (l := [bx g_1 24 [iV 0, iV 0, nS, nS, nS], M_1, Mem.no, M_4, M_6]) hS' 4 rfl
     replace hS : Sep w0 w_24 [N_13, _, _, _, _, _] Z := hS''
     refine ne (hS.sub (.cons (le_5.trans (le_11.trans le_12)) (.rr (.rr (.zz .nn))))) fun hs => ?_
     refine t_take 18 (bA 21 524287) rfl rfl rfl rfl h hs (v := .agg ([iV (w64 ((Int.tmod (band .i64 x0 31) 13) + 0)), iV (band .i64 (shr .i64 x0 8) 7), v_7, v_2, v_13] : List Value).toArray) (fun w hS => r_build h ti24 pl24 rfl (.cons rfl (.cons rfl (.cons (hr_5.mono ln_1).cells (.cons (hr_1.mono lo_1).cells (.cons (hr_10.mono lo_3).cells .nil))))) (cs := [iV (w64 ((Int.tmod (band .i64 x0 31) 13) + 0)), iV (band .i64 (shr .i64 x0 8) 7), v_7, v_2, v_13]) (by kernel_rfl)) fun a h=>?_
     exact (hGD_1 _ _ _ _).1 (hD_3 _ _ ⟨v_13, N_13, (h.to rfl), (hS.sel [0, 1, 2, 1002, 4] (by decide)), (le_11.trans le_12), (hr_10.mono lo_3)⟩)
    ·refine v_alloc h rfl ti24 hS fun w_25 g_7 hS' a h => ?_
     replace hS : Sep w0 w_25 [_, _, _, _, _, bx g_7 24 [iV 0, iV 0, nS, nS, nS]] Z := hS'
     refine ne (hS.sub (.cons (le_5.trans le_11) (.rr (.rr (.zz .nn))))) fun hs => ?_
     exact (hGD_1 _ _ _ _).1 (hD_4 _ _ ⟨g_7, N_12, (h.to rfl), (hS.sel [0, 1, 2, 1002, 4, 5] (by decide)), le_11⟩)
   have hD_6 : ∀ (a : Act) (w_26 : World), (∃ (g_8 : Nat) (N_14 : Mem), Fr 60 a [(0, iV x0), (2, .pointer (some ⟨g_1, 0, none⟩)), (4, .pointer (some ⟨g_8, 0, none⟩)), (15, iV (w64 ((Int.tmod (band .i64 x0 31) 13) + 0))), (18, iV (band .i64 (shr .i64 x0 8) 7)), (21, v_7), (22, v_2), (27, .pointer (some ad_3))] ∧ Sep w0 w_26 [N_14, bx g_1 24 [iV 0, iV 0, nS, nS, nS], M_1, Mem.no, M_4, bx g_8 24 [iV 0, iV 0, nS, nS, nS]] Z ∧ N_6.le N_14) → GD_1 4 (bA 21 589823) a w_26 := by
    rintro a w_26 ⟨g_8, N_14, h, hS, le_13⟩
    refine (hGD_1 _ _ _ _).2 <| h_events [16] (by kernel_rfl) (by simp) ?_
    intro i hi; simp only [List.mem_cons, List.not_mem_nil, or_false] at hi; rcases hi with rfl
    refine ⟨_, (bA 21 655359), rfl, by kernel_rfl, ?_⟩
    refine s_load h rfl rfl (el_one (o := 0) (fun j c h => Mem.cell_le (hS.own 4) (hc_6 j c h)) U9 rfl rfl) fun a h=>wpList_nil <| x_then_n ⟨(hS.sub (.cons (le_5.trans le_13) (.rr (.rr (.zz .nn))))), ?_⟩
    exact (hGD_1 _ _ _ _).1 (hD_4 _ _ ⟨g_8, N_14, (h.to rfl), (hS.sel [0, 1, 2, 1002, 4, 5] (by decide)), le_13⟩)
   refine (hGD_1 _ _ _ _).2 <| h_evs [16, 19] (by kernel_rfl) ⟨⟨_, (bA 21 131071), rfl, by kernel_rfl, ?_⟩, ⟨_, (bA 21 589823), rfl, by kernel_rfl, ?_⟩, trivial⟩
   ·refine s_load h rfl rfl (el_one (o := 0) (fun j c h => Mem.cell_le (hS.own 4) (hc_6 j c h)) U9 rfl rfl) fun a h=>wpList_nil <| x_then_n ⟨(hS.sub (.cons le_5 (.rr (.rr (.zz .nn))))), ?_⟩
    exact (hGD_1 _ _ _ _).1 (hD_5 _ _ ⟨N_6, (h.to rfl), (hS.sel [0, 1, 2, 1002, 4] (by decide)), mr⟩)
   ·refine v_alloc h rfl ti24 hS fun w_27 g_9 hS' a h => ?_
    replace hS : Sep w0 w_27 [_, _, _, _, _, bx g_9 24 [iV 0, iV 0, nS, nS, nS]] Z := hS'
    refine ne (hS.sub (.cons le_5 (.rr (.rr (.zz .nn))))) fun hs => ?_
    exact (hGD_1 _ _ _ _).1 (hD_6 _ _ ⟨g_9, N_6, (h.to rfl), (hS.sel [0, 1, 2, 1002, 4, 5] (by decide)), mr⟩)
  ·refine v_alloc h rfl ti24 hS fun w_28 g_10 hS' a h => ?_
   replace hS : Sep w0 w_28 [_, _, _, _, bx g_10 24 [iV 0, iV 0, nS, nS, nS]] Z := hS'
   refine ne (hS.sub (.cons le_5 (.rr (.rr (.zz .nn))))) fun hs => ?_
   refine h_event 11 (bA 21 557055) rfl (by kernel_rfl) (by kernel_rfl) ?_
   have hq_4 : Reps Kd.str Mem.no ([([] : List UInt8), ([97] : List UInt8), ([98] : List UInt8), ([97, 98] : List UInt8)] : List (List UInt8)) _ := ((Reps.one (d := Kd.str) (x := ([] : List UInt8)) (show Kd.str.K _ _ [.string ⟨([] : List UInt8).toArray⟩] from rfl)).append ((Reps.one (d := Kd.str) (x := ([97] : List UInt8)) (show Kd.str.K _ _ [.string ⟨([97] : List UInt8).toArray⟩] from rfl)).append ((Reps.one (d := Kd.str) (x := ([98] : List UInt8)) (show Kd.str.K _ _ [.string ⟨([98] : List UInt8).toArray⟩] from rfl)).append ((Reps.one (d := Kd.str) (x := ([97, 98] : List UInt8)) (show Kd.str.K _ _ [.string ⟨([97, 98] : List UInt8).toArray⟩] from rfl)).append (Reps.nil Kd.str _)))))
   refine s_buildSlice h rfl U122 ti9 rfl rfl rfl (.cons rfl (.cons rfl (.cons rfl (.cons rfl .nil)))) rfl rfl rfl hS hq_4 rfl fun w_29 v_14 M_7 hS' ho_4 a h => ?_
   replace hS : Sep w0 w_29 [_, _, _, _, _, M_7] Z := hS'
   refine ne (hS.sub (.cons le_5 (.rr (.rr (.zz .nn))))) fun hs => ?_
   refine t_takeE 15 (bA 21 589823) rfl rfl rfl rfl h (hS.sub (.cons le_5 (.rr (.rr (.zz .nn))))) (f := fun ad => .pointer (some ad)) (r_indexO h U122 ti9 rfl rfl rfl ho_4 et_4) ?_
   rintro ad_4 ⟨cs_4, hk_4, hc_7⟩
   obtain rfl := (show cs_4 = [.string ⟨t_4.toArray⟩] from hk_4)
   intro a h
   refine h_event 16 (bA 21 655359) rfl (by kernel_rfl) (by kernel_rfl) <| s_load h rfl rfl (el_one (o := 0) (fun j c h => Mem.cell_le (hS.own 5) (hc_7 j c h)) U9 rfl rfl) fun a h=>wpList_nil <| x_then_n ⟨(hS.sub (.cons le_5 (.rr (.rr (.zz .nn))))), ?_⟩
   refine h_event 17 (bA 21 786431) rfl (by kernel_rfl) (by kernel_rfl) <| s_s2b h rfl U9 U22 U5 rfl (must_some eu_2) hS fun w_30 v_15 M_8 hS' hr_11 a h => ?_
   obtain ⟨N_15, hS'', le_14, lo_4⟩ := Sep.freeze (l := [bx g_1 24 [iV 0, iV 0, nS, nS, nS], M_1, Mem.no, bx g_10 24 [iV 0, iV 0, nS, nS, nS], M_7, M_8]) hS' 5 rfl
   replace hS : Sep w0 w_30 [N_15, _, _, _, _, _, _] Z := hS''
   refine ne (hS.sub (.cons (le_5.trans le_14) (.rr (.rr (.zz .nn))))) fun hs => ?_
   refine t_take 18 (bA 21 1048575) rfl rfl rfl rfl h hs (v := .agg ([iV (w64 ((Int.tmod (band .i64 x0 31) 13) + 0)), iV (band .i64 (shr .i64 x0 8) 7), v_7, v_2, v_15] : List Value).toArray) (fun w hS => r_build h ti24 pl24 rfl (.cons rfl (.cons rfl (.cons (hr_5.mono ln_1).cells (.cons (hr_1.mono lo_1).cells (.cons (hr_11.mono lo_4).cells .nil))))) (cs := [iV (w64 ((Int.tmod (band .i64 x0 31) 13) + 0)), iV (band .i64 (shr .i64 x0 8) 7), v_7, v_2, v_15]) (by kernel_rfl)) fun a h=>h_event 20 (bA 21 2097151) rfl (by kernel_rfl) (by kernel_rfl) ?_
   refine sto 4 h rfl rfl hS rfl ti24 rfl rfl rfl (oa 2 rfl (oc (hr_5.mono ln_1).one (oc (hr_1.mono lo_1).one (oc (hr_11.mono lo_4).one on0)))) fun w_31 hS' => ?_
   replace hS : Sep w0 w_31 [_, _, _, _, Mem.one g_10 (.cells ([iV (w64 ((Int.tmod (band .i64 x0 31) 13) + 0)), iV (band .i64 (shr .i64 x0 8) 7), v_7, v_2, v_15] : List Value).toArray 24 (0, 0)), _, _] Z := hS'
   refine ne (hS.sub (.cons (le_5.trans le_14) (.rr (.rr (.zz .nn))))) fun hs => ?_
   refine h_done (by kernel_rfl) ?_
   exact x_then_n (hJ_j_1 (⟨w64 ((Int.tmod (band .i64 x0 31) 13) + 0), band .i64 (shr .i64 x0 8) 7, t_3, t_1, t_4⟩ : api_Cmd) H _ _ ⟨v_7, v_2, v_15, g_10, N_15, (h.to rfl), (hS.sel [0, 1, 1001, 1002, 4] (by decide)), (le_5.trans le_14), ((hr_5.mono ln_1).mono le_14), ((hr_1.mono lo_1).mono (le_5.trans le_14)), (hr_11.mono lo_4)⟩)
 ·have hq_5 : Reps Kd.str Mem.no ([([] : List UInt8), ([97] : List UInt8), ([98] : List UInt8), ([97, 98] : List UInt8)] : List (List UInt8)) _ := ((Reps.one (d := Kd.str) (x := ([] : List UInt8)) (show Kd.str.K _ _ [.string ⟨([] : List UInt8).toArray⟩] from rfl)).append ((Reps.one (d := Kd.str) (x := ([97] : List UInt8)) (show Kd.str.K _ _ [.string ⟨([97] : List UInt8).toArray⟩] from rfl)).append ((Reps.one (d := Kd.str) (x := ([98] : List UInt8)) (show Kd.str.K _ _ [.string ⟨([98] : List UInt8).toArray⟩] from rfl)).append ((Reps.one (d := Kd.str) (x := ([97, 98] : List UInt8)) (show Kd.str.K _ _ [.string ⟨([97, 98] : List UInt8).toArray⟩] from rfl)).append (Reps.nil Kd.str _)))))
  refine s_buildSlice h rfl U122 ti9 rfl rfl rfl (.cons rfl (.cons rfl (.cons rfl (.cons rfl .nil)))) rfl rfl rfl hS hq_5 rfl fun w_32 v_16 M_9 hS' ho_5 a h => ?_
  replace hS : Sep w0 w_32 [_, _, _, _, M_9] Z := hS'
  refine ne (hS.sub (.cons mr (.rr (.rr (.zz .nn))))) fun hs => ?_
  refine t_takeE 15 (bA 21 65023) rfl rfl rfl rfl h (hS.sub (.cons mr (.rr (.rr (.zz .nn))))) (f := fun ad => .pointer (some ad)) (r_indexO h U122 ti9 rfl rfl rfl ho_5 et_4) ?_
  rintro ad_5 ⟨cs_5, hk_5, hc_8⟩
  obtain rfl := (show cs_5 = [.string ⟨t_4.toArray⟩] from hk_5)
  intro a h
  refine h_state fun GD_2 hGD_2 => ?_
  have hD_7 : ∀ (a : Act) (w_33 : World), (∃ (v_17 : Value) (v_18 : Value) (g_11 : Nat) (N_16 : Mem), Fr 60 a [(0, iV x0), (2, .pointer (some ⟨g_1, 0, none⟩)), (4, .pointer (some ⟨g_11, 0, none⟩))] ∧ Sep w0 w_33 [N_16, bx g_1 24 [iV 0, iV 0, nS, nS, nS], M_1, Mem.no, M_9, Mem.one g_11 (.cells ([iV (w64 ((Int.tmod (band .i64 x0 31) 13) + 0)), iV (band .i64 (shr .i64 x0 8) 7), v_17, v_2, v_18] : List Value).toArray 24 (0, 0))] Z ∧ N_1.le N_16 ∧ Rd Kd.u8 N_16 v_17 t_3 ∧ Rd Kd.u8 N_16 v_18 t_4) → GD_2 0 (bA 21 2097151) a w_33 := by
   rintro a w_33 ⟨v_17, v_18, g_11, N_16, h, hS, le_15, hr_12, hr_13⟩
   refine (hGD_2 _ _ _ _).2 <| h_done (by kernel_rfl) ?_
   exact x_then_n (hJ_j_1 (⟨w64 ((Int.tmod (band .i64 x0 31) 13) + 0), band .i64 (shr .i64 x0 8) 7, t_3, t_1, t_4⟩ : api_Cmd) H _ _ ⟨v_17, v_2, v_18, g_11, N_16, (h.to rfl), (hS.sel [0, 1, 1001, 1002, 5] (by decide)), le_15, hr_12, ((hr_1.mono lo_1).mono le_15), hr_13⟩)
  have hD_8 : ∀ (a : Act) (w_34 : World), (∃ (v_19 : Value) (v_20 : Value) (g_12 : Nat) (N_17 : Mem), Fr 60 a [(0, iV x0), (2, .pointer (some ⟨g_1, 0, none⟩)), (4, .pointer (some ⟨g_12, 0, none⟩)), (30, .agg ([iV (w64 ((Int.tmod (band .i64 x0 31) 13) + 0)), iV (band .i64 (shr .i64 x0 8) 7), v_19, v_2, v_20] : List Value).toArray)] ∧ Sep w0 w_34 [N_17, bx g_1 24 [iV 0, iV 0, nS, nS, nS], M_1, Mem.no, M_9, bx g_12 24 [iV 0, iV 0, nS, nS, nS]] Z ∧ N_1.le N_17 ∧ Rd Kd.u8 N_17 v_19 t_3 ∧ Rd Kd.u8 N_17 v_20 t_4) → GD_2 1 (bA 21 1048575) a w_34 := by
   rintro a w_34 ⟨v_19, v_20, g_12, N_17, h, hS, le_16, hr_14, hr_15⟩
   refine (hGD_2 _ _ _ _).2 <| h_events [20] (by kernel_rfl) (by simp) ?_
   intro i hi; simp only [List.mem_cons, List.not_mem_nil, or_false] at hi; rcases hi with rfl
   refine ⟨_, (bA 21 2097151), rfl, by kernel_rfl, ?_⟩
   refine sto 5 h rfl rfl hS rfl ti24 rfl rfl rfl (oa 2 rfl (oc hr_14.one (oc (hr_1.mono lo_1).one (oc hr_15.one on0)))) fun w_35 hS' => ?_
   replace hS : Sep w0 w_35 [_, _, _, _, _, Mem.one g_12 (.cells ([iV (w64 ((Int.tmod (band .i64 x0 31) 13) + 0)), iV (band .i64 (shr .i64 x0 8) 7), v_19, v_2, v_20] : List Value).toArray 24 (0, 0))] Z := hS'
   refine ne (hS.sub (.cons le_16 (.rr (.rr (.zz .nn))))) fun hs => ?_
   exact (hGD_2 _ _ _ _).1 (hD_7 _ _ ⟨v_19, v_20, g_12, N_17, (h.to rfl), (hS.sel [0, 1, 2, 1002, 4, 5] (by decide)), le_16, hr_14, hr_15⟩)
  have hD_9 : ∀ (a : Act) (w_36 : World), (∃ (v_21 : Value) (v_22 : Value) (N_18 : Mem), Fr 60 a [(0, iV x0), (2, .pointer (some ⟨g_1, 0, none⟩)), (30, .agg ([iV (w64 ((Int.tmod (band .i64 x0 31) 13) + 0)), iV (band .i64 (shr .i64 x0 8) 7), v_21, v_2, v_22] : List Value).toArray)] ∧ Sep w0 w_36 [N_18, bx g_1 24 [iV 0, iV 0, nS, nS, nS], M_1, Mem.no, M_9] Z ∧ N_1.le N_18 ∧ Rd Kd.u8 N_18 v_21 t_3 ∧ Rd Kd.u8 N_18 v_22 t_4) → GD_2 2 (bA 21 524287) a w_36 := by
   rintro a w_36 ⟨v_21, v_22, N_18, h, hS, le_17, hr_16, hr_17⟩
   refine (hGD_2 _ _ _ _).2 <| h_events [19] (by kernel_rfl) (by simp) ?_
   intro i hi; simp only [List.mem_cons, List.not_mem_nil, or_false] at hi; rcases hi with rfl
   refine ⟨_, (bA 21 1048575), rfl, by kernel_rfl, ?_⟩
   refine v_alloc h rfl ti24 hS fun w_37 g_13 hS' a h => ?_
   replace hS : Sep w0 w_37 [_, _, _, _, _, bx g_13 24 [iV 0, iV 0, nS, nS, nS]] Z := hS'
   refine ne (hS.sub (.cons le_17 (.rr (.rr (.zz .nn))))) fun hs => ?_
   exact (hGD_2 _ _ _ _).1 (hD_8 _ _ ⟨v_21, v_22, g_13, N_18, (h.to rfl), (hS.sel [0, 1, 2, 1002, 4, 5] (by decide)), le_17, hr_16, hr_17⟩)
  have hD_10 : ∀ (a : Act) (w_38 : World), (∃ (v_23 : Value) (g_14 : Nat) (N_19 : Mem), Fr 60 a [(0, iV x0), (2, .pointer (some ⟨g_1, 0, none⟩)), (4, .pointer (some ⟨g_14, 0, none⟩)), (15, iV (w64 ((Int.tmod (band .i64 x0 31) 13) + 0))), (18, iV (band .i64 (shr .i64 x0 8) 7)), (21, v_23), (22, v_2), (28, .string ⟨t_4.toArray⟩)] ∧ Sep w0 w_38 [N_19, bx g_1 24 [iV 0, iV 0, nS, nS, nS], M_1, Mem.no, M_9, bx g_14 24 [iV 0, iV 0, nS, nS, nS]] Z ∧ N_1.le N_19 ∧ Rd Kd.u8 N_19 v_23 t_3) → GD_2 3 (bA 21 655359) a w_38 := by
   rintro a w_38 ⟨v_23, g_14, N_19, h, hS, le_18, hr_18⟩
   refine (hGD_2 _ _ _ _).2 <| h_events [17] (by kernel_rfl) (by simp) ?_
   intro i hi; simp only [List.mem_cons, List.not_mem_nil, or_false] at hi; rcases hi with rfl
   refine ⟨_, (bA 21 786431), rfl, by kernel_rfl, ?_⟩
   refine s_s2b h rfl U9 U22 U5 rfl (must_some eu_2) hS fun w_39 v_24 M_10 hS' hr_19 a h => ?_
   obtain ⟨N_20, hS'', le_19, lo_5⟩ := Sep.freeze (l := [bx g_1 24 [iV 0, iV 0, nS, nS, nS], M_1, Mem.no, M_9, bx g_14 24 [iV 0, iV 0, nS, nS, nS], M_10]) hS' 5 rfl
   replace hS : Sep w0 w_39 [N_20, _, _, _, _, _, _] Z := hS''
   refine ne (hS.sub (.cons (le_18.trans le_19) (.rr (.rr (.zz .nn))))) fun hs => ?_
   refine t_take 18 (bA 21 1048575) rfl rfl rfl rfl h hs (v := .agg ([iV (w64 ((Int.tmod (band .i64 x0 31) 13) + 0)), iV (band .i64 (shr .i64 x0 8) 7), v_23, v_2, v_24] : List Value).toArray) (fun w hS => r_build h ti24 pl24 rfl (.cons rfl (.cons rfl (.cons hr_18.cells (.cons (hr_1.mono lo_1).cells (.cons (hr_19.mono lo_5).cells .nil))))) (cs := [iV (w64 ((Int.tmod (band .i64 x0 31) 13) + 0)), iV (band .i64 (shr .i64 x0 8) 7), v_23, v_2, v_24]) (by kernel_rfl)) fun a h=>?_
   exact (hGD_2 _ _ _ _).1 (hD_8 _ _ ⟨v_23, v_24, g_14, N_20, (h.to rfl), (hS.sel [0, 1, 2, 1002, 4, 5] (by decide)), (le_18.trans le_19), (hr_18.mono le_19), (hr_19.mono lo_5)⟩)
  have hD_11 : ∀ (a : Act) (w_40 : World), (∃ (v_25 : Value) (g_15 : Nat) (N_21 : Mem), Fr 60 a [(0, iV x0), (2, .pointer (some ⟨g_1, 0, none⟩)), (4, .pointer (some ⟨g_15, 0, none⟩)), (15, iV (w64 ((Int.tmod (band .i64 x0 31) 13) + 0))), (18, iV (band .i64 (shr .i64 x0 8) 7)), (20, iV (shr .i64 x0 11)), (22, v_2), (29, v_25)] ∧ Sep w0 w_40 [N_21, bx g_1 24 [iV 0, iV 0, nS, nS, nS], M_1, Mem.no, M_9, bx g_15 24 [iV 0, iV 0, nS, nS, nS]] Z ∧ N_1.le N_21 ∧ Rd Kd.u8 N_21 v_25 t_4) → GD_2 3 (bA 21 785919) a w_40 := by
   rintro a w_40 ⟨v_25, g_15, N_21, h, hS, le_20, hr_20⟩
   refine (hGD_2 _ _ _ _).2 <| h_events [9] (by kernel_rfl) (by simp) ?_
   intro i hi; simp only [List.mem_cons, List.not_mem_nil, or_false] at hi; rcases hi with rfl
   refine ⟨_, (bA 21 786431), rfl, by kernel_rfl, ?_⟩
   refine s_call h rfl Try.call83 rfl (hocketlaw7_Keys.calls (shr .i64 x0 11) t_3 w0 _ _ _ mr (hS.enter [] (by decide))  et_3) ?_
   rintro v_26 w_41 ⟨_, N_22, rfl, hS', hr_21⟩
   intro a h
   obtain ⟨N_23, hS'', le_21, ln_2⟩ := hS.call [] (by decide) rfl (l' := []) (ow := []) rfl hS'
   replace hS : Sep w0 w_41 [N_23, _, _, _, _, _] Z := hS''
   refine ne (hS.sub (.cons (le_20.trans le_21) (.rr (.rr (.zz .nn))))) fun hs => ?_
   refine t_take 18 (bA 21 1048575) rfl rfl rfl rfl h hs (v := .agg ([iV (w64 ((Int.tmod (band .i64 x0 31) 13) + 0)), iV (band .i64 (shr .i64 x0 8) 7), v_26, v_2, v_25] : List Value).toArray) (fun w hS => r_build h ti24 pl24 rfl (.cons rfl (.cons rfl (.cons (hr_21.mono ln_2).cells (.cons (hr_1.mono lo_1).cells (.cons hr_20.cells .nil))))) (cs := [iV (w64 ((Int.tmod (band .i64 x0 31) 13) + 0)), iV (band .i64 (shr .i64 x0 8) 7), v_26, v_2, v_25]) (by kernel_rfl)) fun a h=>?_
   exact (hGD_2 _ _ _ _).1 (hD_8 _ _ ⟨v_26, v_25, g_15, N_23, (h.to rfl), (hS.sel [0, 1, 2, 1002, 4, 5] (by decide)), (le_20.trans le_21), (hr_21.mono ln_2), (hr_20.mono le_21)⟩)
  have hD_12 : ∀ (a : Act) (w_42 : World), (∃ (v_27 : Value) (N_24 : Mem), Fr 60 a [(0, iV x0), (2, .pointer (some ⟨g_1, 0, none⟩)), (15, iV (w64 ((Int.tmod (band .i64 x0 31) 13) + 0))), (18, iV (band .i64 (shr .i64 x0 8) 7)), (21, v_27), (22, v_2), (28, .string ⟨t_4.toArray⟩)] ∧ Sep w0 w_42 [N_24, bx g_1 24 [iV 0, iV 0, nS, nS, nS], M_1, Mem.no, M_9] Z ∧ N_1.le N_24 ∧ Rd Kd.u8 N_24 v_27 t_3) → GD_2 4 (bA 21 131071) a w_42 := by
   rintro a w_42 ⟨v_27, N_24, h, hS, le_22, hr_22⟩
   refine (hGD_2 _ _ _ _).2 <| h_evs [17, 19] (by kernel_rfl) ⟨⟨_, (bA 21 262143), rfl, by kernel_rfl, ?_⟩, ⟨_, (bA 21 655359), rfl, by kernel_rfl, ?_⟩, trivial⟩
   ·refine s_s2b h rfl U9 U22 U5 rfl (must_some eu_2) hS fun w_43 v_28 M_11 hS' hr_23 a h => ?_
    obtain ⟨N_25, hS'', le_23, lo_6⟩ := Sep.freeze (l := [bx g_1 24 [iV 0, iV 0, nS, nS, nS], M_1, Mem.no, M_9, M_11]) hS' 4 rfl
    replace hS : Sep w0 w_43 [N_25, _, _, _, _, _] Z := hS''
    refine ne (hS.sub (.cons (le_22.trans le_23) (.rr (.rr (.zz .nn))))) fun hs => ?_
    refine t_take 18 (bA 21 524287) rfl rfl rfl rfl h hs (v := .agg ([iV (w64 ((Int.tmod (band .i64 x0 31) 13) + 0)), iV (band .i64 (shr .i64 x0 8) 7), v_27, v_2, v_28] : List Value).toArray) (fun w hS => r_build h ti24 pl24 rfl (.cons rfl (.cons rfl (.cons hr_22.cells (.cons (hr_1.mono lo_1).cells (.cons (hr_23.mono lo_6).cells .nil))))) (cs := [iV (w64 ((Int.tmod (band .i64 x0 31) 13) + 0)), iV (band .i64 (shr .i64 x0 8) 7), v_27, v_2, v_28]) (by kernel_rfl)) fun a h=>?_
    exact (hGD_2 _ _ _ _).1 (hD_9 _ _ ⟨v_27, v_28, N_25, (h.to rfl), (hS.sel [0, 1, 2, 1002, 4] (by decide)), (le_22.trans le_23), (hr_22.mono le_23), (hr_23.mono lo_6)⟩)
   ·refine v_alloc h rfl ti24 hS fun w_44 g_16 hS' a h => ?_
    replace hS : Sep w0 w_44 [_, _, _, _, _, bx g_16 24 [iV 0, iV 0, nS, nS, nS]] Z := hS'
    refine ne (hS.sub (.cons le_22 (.rr (.rr (.zz .nn))))) fun hs => ?_
    exact (hGD_2 _ _ _ _).1 (hD_10 _ _ ⟨v_27, g_16, N_24, (h.to rfl), (hS.sel [0, 1, 2, 1002, 4, 5] (by decide)), le_22, hr_22⟩)
  have hD_13 : ∀ (a : Act) (w_45 : World), (∃ (v_29 : Value) (g_17 : Nat) (N_26 : Mem), Fr 60 a [(0, iV x0), (2, .pointer (some ⟨g_1, 0, none⟩)), (4, .pointer (some ⟨g_17, 0, none⟩)), (15, iV (w64 ((Int.tmod (band .i64 x0 31) 13) + 0))), (18, iV (band .i64 (shr .i64 x0 8) 7)), (21, v_29), (22, v_2), (27, .pointer (some ad_5))] ∧ Sep w0 w_45 [N_26, bx g_1 24 [iV 0, iV 0, nS, nS, nS], M_1, Mem.no, M_9, bx g_17 24 [iV 0, iV 0, nS, nS, nS]] Z ∧ N_1.le N_26 ∧ Rd Kd.u8 N_26 v_29 t_3) → GD_2 4 (bA 21 589823) a w_45 := by
   rintro a w_45 ⟨v_29, g_17, N_26, h, hS, le_24, hr_24⟩
   refine (hGD_2 _ _ _ _).2 <| h_events [16] (by kernel_rfl) (by simp) ?_
   intro i hi; simp only [List.mem_cons, List.not_mem_nil, or_false] at hi; rcases hi with rfl
   refine ⟨_, (bA 21 655359), rfl, by kernel_rfl, ?_⟩
   refine s_load h rfl rfl (el_one (o := 0) (fun j c h => Mem.cell_le (hS.own 4) (hc_8 j c h)) U9 rfl rfl) fun a h=>wpList_nil <| x_then_n ⟨(hS.sub (.cons le_24 (.rr (.rr (.zz .nn))))), ?_⟩
   exact (hGD_2 _ _ _ _).1 (hD_10 _ _ ⟨v_29, g_17, N_26, (h.to rfl), (hS.sel [0, 1, 2, 1002, 4, 5] (by decide)), le_24, hr_24⟩)
  have hD_14 : ∀ (a : Act) (w_46 : World), (∃ (v_30 : Value) (N_27 : Mem), Fr 60 a [(0, iV x0), (2, .pointer (some ⟨g_1, 0, none⟩)), (15, iV (w64 ((Int.tmod (band .i64 x0 31) 13) + 0))), (18, iV (band .i64 (shr .i64 x0 8) 7)), (20, iV (shr .i64 x0 11)), (22, v_2), (29, v_30)] ∧ Sep w0 w_46 [N_27, bx g_1 24 [iV 0, iV 0, nS, nS, nS], M_1, Mem.no, M_9] Z ∧ N_1.le N_27 ∧ Rd Kd.u8 N_27 v_30 t_4) → GD_2 4 (bA 21 261631) a w_46 := by
   rintro a w_46 ⟨v_30, N_27, h, hS, le_25, hr_25⟩
   refine (hGD_2 _ _ _ _).2 <| h_evs [9, 19] (by kernel_rfl) ⟨⟨_, (bA 21 262143), rfl, by kernel_rfl, ?_⟩, ⟨_, (bA 21 785919), rfl, by kernel_rfl, ?_⟩, trivial⟩
   ·refine s_call h rfl Try.call83 rfl (hocketlaw7_Keys.calls (shr .i64 x0 11) t_3 w0 _ _ _ mr (hS.enter [] (by decide))  et_3) ?_
    rintro v_31 w_47 ⟨_, N_28, rfl, hS', hr_26⟩
    intro a h
    obtain ⟨N_29, hS'', le_26, ln_3⟩ := hS.call [] (by decide) rfl (l' := []) (ow := []) rfl hS'
    replace hS : Sep w0 w_47 [N_29, _, _, _, _] Z := hS''
    refine ne (hS.sub (.cons (le_25.trans le_26) (.rr (.rr (.zz .nn))))) fun hs => ?_
    refine t_take 18 (bA 21 524287) rfl rfl rfl rfl h hs (v := .agg ([iV (w64 ((Int.tmod (band .i64 x0 31) 13) + 0)), iV (band .i64 (shr .i64 x0 8) 7), v_31, v_2, v_30] : List Value).toArray) (fun w hS => r_build h ti24 pl24 rfl (.cons rfl (.cons rfl (.cons (hr_26.mono ln_3).cells (.cons (hr_1.mono lo_1).cells (.cons hr_25.cells .nil))))) (cs := [iV (w64 ((Int.tmod (band .i64 x0 31) 13) + 0)), iV (band .i64 (shr .i64 x0 8) 7), v_31, v_2, v_30]) (by kernel_rfl)) fun a h=>?_
    exact (hGD_2 _ _ _ _).1 (hD_9 _ _ ⟨v_31, v_30, N_29, (h.to rfl), (hS.sel [0, 1, 2, 1002, 4] (by decide)), (le_25.trans le_26), (hr_26.mono ln_3), (hr_25.mono le_26)⟩)
   ·refine v_alloc h rfl ti24 hS fun w_48 g_18 hS' a h => ?_
    replace hS : Sep w0 w_48 [_, _, _, _, _, bx g_18 24 [iV 0, iV 0, nS, nS, nS]] Z := hS'
    refine ne (hS.sub (.cons le_25 (.rr (.rr (.zz .nn))))) fun hs => ?_
    exact (hGD_2 _ _ _ _).1 (hD_11 _ _ ⟨v_30, g_18, N_27, (h.to rfl), (hS.sel [0, 1, 2, 1002, 4, 5] (by decide)), le_25, hr_25⟩)
  have hD_15 : ∀ (a : Act) (w_49 : World), (∃ (g_19 : Nat) (N_30 : Mem), Fr 60 a [(0, iV x0), (2, .pointer (some ⟨g_1, 0, none⟩)), (4, .pointer (some ⟨g_19, 0, none⟩)), (15, iV (w64 ((Int.tmod (band .i64 x0 31) 13) + 0))), (18, iV (band .i64 (shr .i64 x0 8) 7)), (20, iV (shr .i64 x0 11)), (22, v_2), (28, .string ⟨t_4.toArray⟩)] ∧ Sep w0 w_49 [N_30, bx g_1 24 [iV 0, iV 0, nS, nS, nS], M_1, Mem.no, M_9, bx g_19 24 [iV 0, iV 0, nS, nS, nS]] Z ∧ N_1.le N_30) → GD_2 4 (bA 21 654847) a w_49 := by
   rintro a w_49 ⟨g_19, N_30, h, hS, le_27⟩
   refine (hGD_2 _ _ _ _).2 <| h_evs [9, 17] (by kernel_rfl) ⟨⟨_, (bA 21 655359), rfl, by kernel_rfl, ?_⟩, ⟨_, (bA 21 785919), rfl, by kernel_rfl, ?_⟩, trivial⟩
   ·refine s_call h rfl Try.call83 rfl (hocketlaw7_Keys.calls (shr .i64 x0 11) t_3 w0 _ _ _ mr (hS.enter [] (by decide))  et_3) ?_
    rintro v_32 w_50 ⟨_, N_31, rfl, hS', hr_27⟩
    intro a h
    obtain ⟨N_32, hS'', le_28, ln_4⟩ := hS.call [] (by decide) rfl (l' := []) (ow := []) rfl hS'
    replace hS : Sep w0 w_50 [N_32, _, _, _, _, _] Z := hS''
    refine ne (hS.sub (.cons (le_27.trans le_28) (.rr (.rr (.zz .nn))))) fun hs => ?_
    exact (hGD_2 _ _ _ _).1 (hD_10 _ _ ⟨v_32, g_19, N_32, (h.to rfl), (hS.sel [0, 1, 2, 1002, 4, 5] (by decide)), (le_27.trans le_28), (hr_27.mono ln_4)⟩)
   ·refine s_s2b h rfl U9 U22 U5 rfl (must_some eu_2) hS fun w_51 v_33 M_12 hS' hr_28 a h => ?_
    obtain ⟨N_33, hS'', le_29, lo_7⟩ := Sep.freeze (l := [bx g_1 24 [iV 0, iV 0, nS, nS, nS], M_1, Mem.no, M_9, bx g_19 24 [iV 0, iV 0, nS, nS, nS], M_12]) hS' 5 rfl
    replace hS : Sep w0 w_51 [N_33, _, _, _, _, _, _] Z := hS''
    refine ne (hS.sub (.cons (le_27.trans le_29) (.rr (.rr (.zz .nn))))) fun hs => ?_
    exact (hGD_2 _ _ _ _).1 (hD_11 _ _ ⟨v_33, g_19, N_33, (h.to rfl), (hS.sel [0, 1, 2, 1002, 4, 5] (by decide)), (le_27.trans le_29), (hr_28.mono lo_7)⟩)
  have hD_16 : ∀ (a : Act) (w_52 : World), (∃ (v_34 : Value) (N_34 : Mem), Fr 60 a [(0, iV x0), (2, .pointer (some ⟨g_1, 0, none⟩)), (15, iV (w64 ((Int.tmod (band .i64 x0 31) 13) + 0))), (18, iV (band .i64 (shr .i64 x0 8) 7)), (21, v_34), (22, v_2), (27, .pointer (some ad_5))] ∧ Sep w0 w_52 [N_34, bx g_1 24 [iV 0, iV 0, nS, nS, nS], M_1, Mem.no, M_9] Z ∧ N_1.le N_34 ∧ Rd Kd.u8 N_34 v_34 t_3) → GD_2 5 (bA 21 65535) a w_52 := by
   rintro a w_52 ⟨v_34, N_34, h, hS, le_30, hr_29⟩
   refine (hGD_2 _ _ _ _).2 <| h_evs [16, 19] (by kernel_rfl) ⟨⟨_, (bA 21 131071), rfl, by kernel_rfl, ?_⟩, ⟨_, (bA 21 589823), rfl, by kernel_rfl, ?_⟩, trivial⟩
   ·refine s_load h rfl rfl (el_one (o := 0) (fun j c h => Mem.cell_le (hS.own 4) (hc_8 j c h)) U9 rfl rfl) fun a h=>wpList_nil <| x_then_n ⟨(hS.sub (.cons le_30 (.rr (.rr (.zz .nn))))), ?_⟩
    exact (hGD_2 _ _ _ _).1 (hD_12 _ _ ⟨v_34, N_34, (h.to rfl), (hS.sel [0, 1, 2, 1002, 4] (by decide)), le_30, hr_29⟩)
   ·refine v_alloc h rfl ti24 hS fun w_53 g_20 hS' a h => ?_
    replace hS : Sep w0 w_53 [_, _, _, _, _, bx g_20 24 [iV 0, iV 0, nS, nS, nS]] Z := hS'
    refine ne (hS.sub (.cons le_30 (.rr (.rr (.zz .nn))))) fun hs => ?_
    exact (hGD_2 _ _ _ _).1 (hD_13 _ _ ⟨v_34, g_20, N_34, (h.to rfl), (hS.sel [0, 1, 2, 1002, 4, 5] (by decide)), le_30, hr_29⟩)
  have hD_17 : ∀ (a : Act) (w_54 : World), (∃ (N_35 : Mem), Fr 60 a [(0, iV x0), (2, .pointer (some ⟨g_1, 0, none⟩)), (15, iV (w64 ((Int.tmod (band .i64 x0 31) 13) + 0))), (18, iV (band .i64 (shr .i64 x0 8) 7)), (20, iV (shr .i64 x0 11)), (22, v_2), (28, .string ⟨t_4.toArray⟩)] ∧ Sep w0 w_54 [N_35, bx g_1 24 [iV 0, iV 0, nS, nS, nS], M_1, Mem.no, M_9] Z ∧ N_1.le N_35) → GD_2 5 (bA 21 130559) a w_54 := by
   rintro a w_54 ⟨N_35, h, hS, le_31⟩
   refine (hGD_2 _ _ _ _).2 <| h_evs [9, 17, 19] (by kernel_rfl) ⟨⟨_, (bA 21 131071), rfl, by kernel_rfl, ?_⟩, ⟨_, (bA 21 261631), rfl, by kernel_rfl, ?_⟩, ⟨_, (bA 21 654847), rfl, by kernel_rfl, ?_⟩, trivial⟩
   ·refine s_call h rfl Try.call83 rfl (hocketlaw7_Keys.calls (shr .i64 x0 11) t_3 w0 _ _ _ mr (hS.enter [] (by decide))  et_3) ?_
    rintro v_35 w_55 ⟨_, N_36, rfl, hS', hr_30⟩
    intro a h
    obtain ⟨N_37, hS'', le_32, ln_5⟩ := hS.call [] (by decide) rfl (l' := []) (ow := []) rfl hS'
    replace hS : Sep w0 w_55 [N_37, _, _, _, _] Z := hS''
    refine ne (hS.sub (.cons (le_31.trans le_32) (.rr (.rr (.zz .nn))))) fun hs => ?_
    exact (hGD_2 _ _ _ _).1 (hD_12 _ _ ⟨v_35, N_37, (h.to rfl), (hS.sel [0, 1, 2, 1002, 4] (by decide)), (le_31.trans le_32), (hr_30.mono ln_5)⟩)
   ·refine s_s2b h rfl U9 U22 U5 rfl (must_some eu_2) hS fun w_56 v_36 M_13 hS' hr_31 a h => ?_
    obtain ⟨N_38, hS'', le_33, lo_8⟩ := Sep.freeze (l := [bx g_1 24 [iV 0, iV 0, nS, nS, nS], M_1, Mem.no, M_9, M_13]) hS' 4 rfl
    replace hS : Sep w0 w_56 [N_38, _, _, _, _, _] Z := hS''
    refine ne (hS.sub (.cons (le_31.trans le_33) (.rr (.rr (.zz .nn))))) fun hs => ?_
    exact (hGD_2 _ _ _ _).1 (hD_14 _ _ ⟨v_36, N_38, (h.to rfl), (hS.sel [0, 1, 2, 1002, 4] (by decide)), (le_31.trans le_33), (hr_31.mono lo_8)⟩)
   ·refine v_alloc h rfl ti24 hS fun w_57 g_21 hS' a h => ?_
    replace hS : Sep w0 w_57 [_, _, _, _, _, bx g_21 24 [iV 0, iV 0, nS, nS, nS]] Z := hS'
    refine ne (hS.sub (.cons le_31 (.rr (.rr (.zz .nn))))) fun hs => ?_
    exact (hGD_2 _ _ _ _).1 (hD_15 _ _ ⟨g_21, N_35, (h.to rfl), (hS.sel [0, 1, 2, 1002, 4, 5] (by decide)), le_31⟩)
  have hD_18 : ∀ (a : Act) (w_58 : World), (∃ (g_22 : Nat) (N_39 : Mem), Fr 60 a [(0, iV x0), (2, .pointer (some ⟨g_1, 0, none⟩)), (4, .pointer (some ⟨g_22, 0, none⟩)), (15, iV (w64 ((Int.tmod (band .i64 x0 31) 13) + 0))), (18, iV (band .i64 (shr .i64 x0 8) 7)), (20, iV (shr .i64 x0 11)), (22, v_2), (27, .pointer (some ad_5))] ∧ Sep w0 w_58 [N_39, bx g_1 24 [iV 0, iV 0, nS, nS, nS], M_1, Mem.no, M_9, bx g_22 24 [iV 0, iV 0, nS, nS, nS]] Z ∧ N_1.le N_39) → GD_2 5 (bA 21 589311) a w_58 := by
   rintro a w_58 ⟨g_22, N_39, h, hS, le_34⟩
   refine (hGD_2 _ _ _ _).2 <| h_evs [9, 16] (by kernel_rfl) ⟨⟨_, (bA 21 589823), rfl, by kernel_rfl, ?_⟩, ⟨_, (bA 21 654847), rfl, by kernel_rfl, ?_⟩, trivial⟩
   ·refine s_call h rfl Try.call83 rfl (hocketlaw7_Keys.calls (shr .i64 x0 11) t_3 w0 _ _ _ mr (hS.enter [] (by decide))  et_3) ?_
    rintro v_37 w_59 ⟨_, N_40, rfl, hS', hr_32⟩
    intro a h
    obtain ⟨N_41, hS'', le_35, ln_6⟩ := hS.call [] (by decide) rfl (l' := []) (ow := []) rfl hS'
    replace hS : Sep w0 w_59 [N_41, _, _, _, _, _] Z := hS''
    refine ne (hS.sub (.cons (le_34.trans le_35) (.rr (.rr (.zz .nn))))) fun hs => ?_
    exact (hGD_2 _ _ _ _).1 (hD_13 _ _ ⟨v_37, g_22, N_41, (h.to rfl), (hS.sel [0, 1, 2, 1002, 4, 5] (by decide)), (le_34.trans le_35), (hr_32.mono ln_6)⟩)
   ·refine s_load h rfl rfl (el_one (o := 0) (fun j c h => Mem.cell_le (hS.own 4) (hc_8 j c h)) U9 rfl rfl) fun a h=>wpList_nil <| x_then_n ⟨(hS.sub (.cons le_34 (.rr (.rr (.zz .nn))))), ?_⟩
    exact (hGD_2 _ _ _ _).1 (hD_15 _ _ ⟨g_22, N_39, (h.to rfl), (hS.sel [0, 1, 2, 1002, 4, 5] (by decide)), le_34⟩)
  refine (hGD_2 _ _ _ _).2 <| h_evs [9, 16, 19] (by kernel_rfl) ⟨⟨_, (bA 21 65535), rfl, by kernel_rfl, ?_⟩, ⟨_, (bA 21 130559), rfl, by kernel_rfl, ?_⟩, ⟨_, (bA 21 589311), rfl, by kernel_rfl, ?_⟩, trivial⟩
  ·refine s_call h rfl Try.call83 rfl (hocketlaw7_Keys.calls (shr .i64 x0 11) t_3 w0 _ _ _ mr (hS.enter [] (by decide))  et_3) ?_
   rintro v_38 w_60 ⟨_, N_42, rfl, hS', hr_33⟩
   intro a h
   obtain ⟨N_43, hS'', le_36, ln_7⟩ := hS.call [] (by decide) rfl (l' := []) (ow := []) rfl hS'
   replace hS : Sep w0 w_60 [N_43, _, _, _, _] Z := hS''
   refine ne (hS.sub (.cons le_36 (.rr (.rr (.zz .nn))))) fun hs => ?_
   exact (hGD_2 _ _ _ _).1 (hD_16 _ _ ⟨v_38, N_43, (h.to rfl), (hS.sel [0, 1, 2, 1002, 4] (by decide)), le_36, (hr_33.mono ln_7)⟩)
  ·refine s_load h rfl rfl (el_one (o := 0) (fun j c h => Mem.cell_le (hS.own 4) (hc_8 j c h)) U9 rfl rfl) fun a h=>wpList_nil <| x_then_n ⟨(hS.sub (.cons mr (.rr (.rr (.zz .nn))))), ?_⟩
   exact (hGD_2 _ _ _ _).1 (hD_17 _ _ ⟨N_1, (h.to rfl), (hS.sel [0, 1, 2, 1002, 4] (by decide)), mr⟩)
  ·refine v_alloc h rfl ti24 hS fun w_61 g_23 hS' a h => ?_
   replace hS : Sep w0 w_61 [_, _, _, _, _, bx g_23 24 [iV 0, iV 0, nS, nS, nS]] Z := hS'
   refine ne (hS.sub (.cons mr (.rr (.rr (.zz .nn))))) fun hs => ?_
   exact (hGD_2 _ _ _ _).1 (hD_18 _ _ ⟨g_23, N_1, (h.to rfl), (hS.sel [0, 1, 2, 1002, 4, 5] (by decide)), mr⟩)
 ·refine v_alloc h rfl ti24 hS fun w_62 g_24 hS' a h => ?_
  replace hS : Sep w0 w_62 [_, _, _, _, bx g_24 24 [iV 0, iV 0, nS, nS, nS]] Z := hS'
  refine ne (hS.sub (.cons mr (.rr (.rr (.zz .nn))))) fun hs => ?_
  refine h_evs [9, 11] (by kernel_rfl) ⟨⟨_, (bA 21 555007), rfl, by kernel_rfl, ?_⟩, ⟨_, (bA 21 556543), rfl, by kernel_rfl, ?_⟩, trivial⟩
  ·refine s_call h rfl Try.call83 rfl (hocketlaw7_Keys.calls (shr .i64 x0 11) t_3 w0 _ _ _ mr (hS.enter [] (by decide))  et_3) ?_
   rintro v_39 w_63 ⟨_, N_44, rfl, hS', hr_34⟩
   intro a h
   obtain ⟨N_45, hS'', le_37, ln_8⟩ := hS.call [] (by decide) rfl (l' := []) (ow := []) rfl hS'
   replace hS : Sep w0 w_63 [N_45, _, _, _, _] Z := hS''
   refine ne (hS.sub (.cons le_37 (.rr (.rr (.zz .nn))))) fun hs => ?_
   refine h_event 11 (bA 21 557055) rfl (by kernel_rfl) (by kernel_rfl) ?_
   have hq_6 : Reps Kd.str Mem.no ([([] : List UInt8), ([97] : List UInt8), ([98] : List UInt8), ([97, 98] : List UInt8)] : List (List UInt8)) _ := ((Reps.one (d := Kd.str) (x := ([] : List UInt8)) (show Kd.str.K _ _ [.string ⟨([] : List UInt8).toArray⟩] from rfl)).append ((Reps.one (d := Kd.str) (x := ([97] : List UInt8)) (show Kd.str.K _ _ [.string ⟨([97] : List UInt8).toArray⟩] from rfl)).append ((Reps.one (d := Kd.str) (x := ([98] : List UInt8)) (show Kd.str.K _ _ [.string ⟨([98] : List UInt8).toArray⟩] from rfl)).append ((Reps.one (d := Kd.str) (x := ([97, 98] : List UInt8)) (show Kd.str.K _ _ [.string ⟨([97, 98] : List UInt8).toArray⟩] from rfl)).append (Reps.nil Kd.str _)))))
   refine s_buildSlice h rfl U122 ti9 rfl rfl rfl (.cons rfl (.cons rfl (.cons rfl (.cons rfl .nil)))) rfl rfl rfl hS hq_6 rfl fun w_64 v_40 M_14 hS' ho_6 a h => ?_
   replace hS : Sep w0 w_64 [_, _, _, _, _, M_14] Z := hS'
   refine ne (hS.sub (.cons le_37 (.rr (.rr (.zz .nn))))) fun hs => ?_
   refine t_takeE 15 (bA 21 589823) rfl rfl rfl rfl h (hS.sub (.cons le_37 (.rr (.rr (.zz .nn))))) (f := fun ad => .pointer (some ad)) (r_indexO h U122 ti9 rfl rfl rfl ho_6 et_4) ?_
   rintro ad_6 ⟨cs_6, hk_6, hc_9⟩
   obtain rfl := (show cs_6 = [.string ⟨t_4.toArray⟩] from hk_6)
   intro a h
   refine h_event 16 (bA 21 655359) rfl (by kernel_rfl) (by kernel_rfl) <| s_load h rfl rfl (el_one (o := 0) (fun j c h => Mem.cell_le (hS.own 5) (hc_9 j c h)) U9 rfl rfl) fun a h=>wpList_nil <| x_then_n ⟨(hS.sub (.cons le_37 (.rr (.rr (.zz .nn))))), ?_⟩
   refine h_event 17 (bA 21 786431) rfl (by kernel_rfl) (by kernel_rfl) <| s_s2b h rfl U9 U22 U5 rfl (must_some eu_2) hS fun w_65 v_41 M_15 hS' hr_35 a h => ?_
   obtain ⟨N_46, hS'', le_38, lo_9⟩ := Sep.freeze (l := [bx g_1 24 [iV 0, iV 0, nS, nS, nS], M_1, Mem.no, bx g_24 24 [iV 0, iV 0, nS, nS, nS], M_14, M_15]) hS' 5 rfl
   replace hS : Sep w0 w_65 [N_46, _, _, _, _, _, _] Z := hS''
   refine ne (hS.sub (.cons (le_37.trans le_38) (.rr (.rr (.zz .nn))))) fun hs => ?_
   refine t_take 18 (bA 21 1048575) rfl rfl rfl rfl h hs (v := .agg ([iV (w64 ((Int.tmod (band .i64 x0 31) 13) + 0)), iV (band .i64 (shr .i64 x0 8) 7), v_39, v_2, v_41] : List Value).toArray) (fun w hS => r_build h ti24 pl24 rfl (.cons rfl (.cons rfl (.cons (hr_34.mono ln_8).cells (.cons (hr_1.mono lo_1).cells (.cons (hr_35.mono lo_9).cells .nil))))) (cs := [iV (w64 ((Int.tmod (band .i64 x0 31) 13) + 0)), iV (band .i64 (shr .i64 x0 8) 7), v_39, v_2, v_41]) (by kernel_rfl)) fun a h=>h_event 20 (bA 21 2097151) rfl (by kernel_rfl) (by kernel_rfl) ?_
   refine sto 4 h rfl rfl hS rfl ti24 rfl rfl rfl (oa 2 rfl (oc (hr_34.mono ln_8).one (oc (hr_1.mono lo_1).one (oc (hr_35.mono lo_9).one on0)))) fun w_66 hS' => ?_
   replace hS : Sep w0 w_66 [_, _, _, _, Mem.one g_24 (.cells ([iV (w64 ((Int.tmod (band .i64 x0 31) 13) + 0)), iV (band .i64 (shr .i64 x0 8) 7), v_39, v_2, v_41] : List Value).toArray 24 (0, 0)), _, _] Z := hS'
   refine ne (hS.sub (.cons (le_37.trans le_38) (.rr (.rr (.zz .nn))))) fun hs => ?_
   refine h_done (by kernel_rfl) ?_
   exact x_then_n (hJ_j_1 (⟨w64 ((Int.tmod (band .i64 x0 31) 13) + 0), band .i64 (shr .i64 x0 8) 7, t_3, t_1, t_4⟩ : api_Cmd) H _ _ ⟨v_39, v_2, v_41, g_24, N_46, (h.to rfl), (hS.sel [0, 1, 1001, 1002, 4] (by decide)), (le_37.trans le_38), ((hr_34.mono ln_8).mono le_38), ((hr_1.mono lo_1).mono (le_37.trans le_38)), (hr_35.mono lo_9)⟩)
  ·have hq_7 : Reps Kd.str Mem.no ([([] : List UInt8), ([97] : List UInt8), ([98] : List UInt8), ([97, 98] : List UInt8)] : List (List UInt8)) _ := ((Reps.one (d := Kd.str) (x := ([] : List UInt8)) (show Kd.str.K _ _ [.string ⟨([] : List UInt8).toArray⟩] from rfl)).append ((Reps.one (d := Kd.str) (x := ([97] : List UInt8)) (show Kd.str.K _ _ [.string ⟨([97] : List UInt8).toArray⟩] from rfl)).append ((Reps.one (d := Kd.str) (x := ([98] : List UInt8)) (show Kd.str.K _ _ [.string ⟨([98] : List UInt8).toArray⟩] from rfl)).append ((Reps.one (d := Kd.str) (x := ([97, 98] : List UInt8)) (show Kd.str.K _ _ [.string ⟨([97, 98] : List UInt8).toArray⟩] from rfl)).append (Reps.nil Kd.str _)))))
   refine s_buildSlice h rfl U122 ti9 rfl rfl rfl (.cons rfl (.cons rfl (.cons rfl (.cons rfl .nil)))) rfl rfl rfl hS hq_7 rfl fun w_67 v_42 M_16 hS' ho_7 a h => ?_
   replace hS : Sep w0 w_67 [_, _, _, _, _, M_16] Z := hS'
   refine ne (hS.sub (.cons mr (.rr (.rr (.zz .nn))))) fun hs => ?_
   refine t_takeE 15 (bA 21 589311) rfl rfl rfl rfl h (hS.sub (.cons mr (.rr (.rr (.zz .nn))))) (f := fun ad => .pointer (some ad)) (r_indexO h U122 ti9 rfl rfl rfl ho_7 et_4) ?_
   rintro ad_7 ⟨cs_7, hk_7, hc_10⟩
   obtain rfl := (show cs_7 = [.string ⟨t_4.toArray⟩] from hk_7)
   intro a h
   refine h_state fun GD_3 hGD_3 => ?_
   have hD_19 : ∀ (a : Act) (w_68 : World), (∃ (v_43 : Value) (v_44 : Value) (N_47 : Mem), Fr 60 a [(0, iV x0), (2, .pointer (some ⟨g_1, 0, none⟩)), (4, .pointer (some ⟨g_24, 0, none⟩))] ∧ Sep w0 w_68 [N_47, bx g_1 24 [iV 0, iV 0, nS, nS, nS], M_1, Mem.no, Mem.one g_24 (.cells ([iV (w64 ((Int.tmod (band .i64 x0 31) 13) + 0)), iV (band .i64 (shr .i64 x0 8) 7), v_43, v_2, v_44] : List Value).toArray 24 (0, 0)), M_16] Z ∧ N_1.le N_47 ∧ Rd Kd.u8 N_47 v_43 t_3 ∧ Rd Kd.u8 N_47 v_44 t_4) → GD_3 0 (bA 21 2097151) a w_68 := by
    rintro a w_68 ⟨v_43, v_44, N_47, h, hS, le_39, hr_36, hr_37⟩
    refine (hGD_3 _ _ _ _).2 <| h_done (by kernel_rfl) ?_
    exact x_then_n (hJ_j_1 (⟨w64 ((Int.tmod (band .i64 x0 31) 13) + 0), band .i64 (shr .i64 x0 8) 7, t_3, t_1, t_4⟩ : api_Cmd) H _ _ ⟨v_43, v_2, v_44, g_24, N_47, (h.to rfl), (hS.sel [0, 1, 1001, 1002, 4] (by decide)), le_39, hr_36, ((hr_1.mono lo_1).mono le_39), hr_37⟩)
   have hD_20 : ∀ (a : Act) (w_69 : World), (∃ (v_45 : Value) (v_46 : Value) (N_48 : Mem), Fr 60 a [(0, iV x0), (2, .pointer (some ⟨g_1, 0, none⟩)), (4, .pointer (some ⟨g_24, 0, none⟩)), (30, .agg ([iV (w64 ((Int.tmod (band .i64 x0 31) 13) + 0)), iV (band .i64 (shr .i64 x0 8) 7), v_45, v_2, v_46] : List Value).toArray)] ∧ Sep w0 w_69 [N_48, bx g_1 24 [iV 0, iV 0, nS, nS, nS], M_1, Mem.no, bx g_24 24 [iV 0, iV 0, nS, nS, nS], M_16] Z ∧ N_1.le N_48 ∧ Rd Kd.u8 N_48 v_45 t_3 ∧ Rd Kd.u8 N_48 v_46 t_4) → GD_3 1 (bA 21 1048575) a w_69 := by
    rintro a w_69 ⟨v_45, v_46, N_48, h, hS, le_40, hr_38, hr_39⟩
    refine (hGD_3 _ _ _ _).2 <| h_events [20] (by kernel_rfl) (by simp) ?_
    intro i hi; simp only [List.mem_cons, List.not_mem_nil, or_false] at hi; rcases hi with rfl
    refine ⟨_, (bA 21 2097151), rfl, by kernel_rfl, ?_⟩
    refine sto 4 h rfl rfl hS rfl ti24 rfl rfl rfl (oa 2 rfl (oc hr_38.one (oc (hr_1.mono lo_1).one (oc hr_39.one on0)))) fun w_70 hS' => ?_
    replace hS : Sep w0 w_70 [_, _, _, _, Mem.one g_24 (.cells ([iV (w64 ((Int.tmod (band .i64 x0 31) 13) + 0)), iV (band .i64 (shr .i64 x0 8) 7), v_45, v_2, v_46] : List Value).toArray 24 (0, 0)), _] Z := hS'
    refine ne (hS.sub (.cons le_40 (.rr (.rr (.zz .nn))))) fun hs => ?_
    exact (hGD_3 _ _ _ _).1 (hD_19 _ _ ⟨v_45, v_46, N_48, (h.to rfl), (hS.sel [0, 1, 2, 1002, 4, 5] (by decide)), le_40, hr_38, hr_39⟩)
   have hD_21 : ∀ (a : Act) (w_71 : World), (∃ (v_47 : Value) (N_49 : Mem), Fr 60 a [(0, iV x0), (2, .pointer (some ⟨g_1, 0, none⟩)), (4, .pointer (some ⟨g_24, 0, none⟩)), (15, iV (w64 ((Int.tmod (band .i64 x0 31) 13) + 0))), (18, iV (band .i64 (shr .i64 x0 8) 7)), (21, v_47), (22, v_2), (28, .string ⟨t_4.toArray⟩)] ∧ Sep w0 w_71 [N_49, bx g_1 24 [iV 0, iV 0, nS, nS, nS], M_1, Mem.no, bx g_24 24 [iV 0, iV 0, nS, nS, nS], M_16] Z ∧ N_1.le N_49 ∧ Rd Kd.u8 N_49 v_47 t_3) → GD_3 3 (bA 21 655359) a w_71 := by
    rintro a w_71 ⟨v_47, N_49, h, hS, le_41, hr_40⟩
    refine (hGD_3 _ _ _ _).2 <| h_events [17] (by kernel_rfl) (by simp) ?_
    intro i hi; simp only [List.mem_cons, List.not_mem_nil, or_false] at hi; rcases hi with rfl
    refine ⟨_, (bA 21 786431), rfl, by kernel_rfl, ?_⟩
    refine s_s2b h rfl U9 U22 U5 rfl (must_some eu_2) hS fun w_72 v_48 M_17 hS' hr_41 a h => ?_
    obtain ⟨N_50, hS'', le_42, lo_10⟩ := Sep.freeze (l := [bx g_1 24 [iV 0, iV 0, nS, nS, nS], M_1, Mem.no, bx g_24 24 [iV 0, iV 0, nS, nS, nS], M_16, M_17]) hS' 5 rfl
    replace hS : Sep w0 w_72 [N_50, _, _, _, _, _, _] Z := hS''
    refine ne (hS.sub (.cons (le_41.trans le_42) (.rr (.rr (.zz .nn))))) fun hs => ?_
    refine t_take 18 (bA 21 1048575) rfl rfl rfl rfl h hs (v := .agg ([iV (w64 ((Int.tmod (band .i64 x0 31) 13) + 0)), iV (band .i64 (shr .i64 x0 8) 7), v_47, v_2, v_48] : List Value).toArray) (fun w hS => r_build h ti24 pl24 rfl (.cons rfl (.cons rfl (.cons hr_40.cells (.cons (hr_1.mono lo_1).cells (.cons (hr_41.mono lo_10).cells .nil))))) (cs := [iV (w64 ((Int.tmod (band .i64 x0 31) 13) + 0)), iV (band .i64 (shr .i64 x0 8) 7), v_47, v_2, v_48]) (by kernel_rfl)) fun a h=>?_
    exact (hGD_3 _ _ _ _).1 (hD_20 _ _ ⟨v_47, v_48, N_50, (h.to rfl), (hS.sel [0, 1, 2, 1002, 4, 5] (by decide)), (le_41.trans le_42), (hr_40.mono le_42), (hr_41.mono lo_10)⟩)
   have hD_22 : ∀ (a : Act) (w_73 : World), (∃ (v_49 : Value) (N_51 : Mem), Fr 60 a [(0, iV x0), (2, .pointer (some ⟨g_1, 0, none⟩)), (4, .pointer (some ⟨g_24, 0, none⟩)), (15, iV (w64 ((Int.tmod (band .i64 x0 31) 13) + 0))), (18, iV (band .i64 (shr .i64 x0 8) 7)), (20, iV (shr .i64 x0 11)), (22, v_2), (29, v_49)] ∧ Sep w0 w_73 [N_51, bx g_1 24 [iV 0, iV 0, nS, nS, nS], M_1, Mem.no, bx g_24 24 [iV 0, iV 0, nS, nS, nS], M_16] Z ∧ N_1.le N_51 ∧ Rd Kd.u8 N_51 v_49 t_4) → GD_3 3 (bA 21 785919) a w_73 := by
    rintro a w_73 ⟨v_49, N_51, h, hS, le_43, hr_42⟩
    refine (hGD_3 _ _ _ _).2 <| h_events [9] (by kernel_rfl) (by simp) ?_
    intro i hi; simp only [List.mem_cons, List.not_mem_nil, or_false] at hi; rcases hi with rfl
    refine ⟨_, (bA 21 786431), rfl, by kernel_rfl, ?_⟩
    refine s_call h rfl Try.call83 rfl (hocketlaw7_Keys.calls (shr .i64 x0 11) t_3 w0 _ _ _ mr (hS.enter [] (by decide))  et_3) ?_
    rintro v_50 w_74 ⟨_, N_52, rfl, hS', hr_43⟩
    intro a h
    obtain ⟨N_53, hS'', le_44, ln_9⟩ := hS.call [] (by decide) rfl (l' := []) (ow := []) rfl hS'
    replace hS : Sep w0 w_74 [N_53, _, _, _, _, _] Z := hS''
    refine ne (hS.sub (.cons (le_43.trans le_44) (.rr (.rr (.zz .nn))))) fun hs => ?_
    refine t_take 18 (bA 21 1048575) rfl rfl rfl rfl h hs (v := .agg ([iV (w64 ((Int.tmod (band .i64 x0 31) 13) + 0)), iV (band .i64 (shr .i64 x0 8) 7), v_50, v_2, v_49] : List Value).toArray) (fun w hS => r_build h ti24 pl24 rfl (.cons rfl (.cons rfl (.cons (hr_43.mono ln_9).cells (.cons (hr_1.mono lo_1).cells (.cons hr_42.cells .nil))))) (cs := [iV (w64 ((Int.tmod (band .i64 x0 31) 13) + 0)), iV (band .i64 (shr .i64 x0 8) 7), v_50, v_2, v_49]) (by kernel_rfl)) fun a h=>?_
    exact (hGD_3 _ _ _ _).1 (hD_20 _ _ ⟨v_50, v_49, N_53, (h.to rfl), (hS.sel [0, 1, 2, 1002, 4, 5] (by decide)), (le_43.trans le_44), (hr_43.mono ln_9), (hr_42.mono le_44)⟩)
   have hD_23 : ∀ (a : Act) (w_75 : World), (∃ (v_51 : Value) (N_54 : Mem), Fr 60 a [(0, iV x0), (2, .pointer (some ⟨g_1, 0, none⟩)), (4, .pointer (some ⟨g_24, 0, none⟩)), (15, iV (w64 ((Int.tmod (band .i64 x0 31) 13) + 0))), (18, iV (band .i64 (shr .i64 x0 8) 7)), (21, v_51), (22, v_2), (27, .pointer (some ad_7))] ∧ Sep w0 w_75 [N_54, bx g_1 24 [iV 0, iV 0, nS, nS, nS], M_1, Mem.no, bx g_24 24 [iV 0, iV 0, nS, nS, nS], M_16] Z ∧ N_1.le N_54 ∧ Rd Kd.u8 N_54 v_51 t_3) → GD_3 4 (bA 21 589823) a w_75 := by
    rintro a w_75 ⟨v_51, N_54, h, hS, le_45, hr_44⟩
    refine (hGD_3 _ _ _ _).2 <| h_events [16] (by kernel_rfl) (by simp) ?_
    intro i hi; simp only [List.mem_cons, List.not_mem_nil, or_false] at hi; rcases hi with rfl
    refine ⟨_, (bA 21 655359), rfl, by kernel_rfl, ?_⟩
    refine s_load h rfl rfl (el_one (o := 0) (fun j c h => Mem.cell_le (hS.own 5) (hc_10 j c h)) U9 rfl rfl) fun a h=>wpList_nil <| x_then_n ⟨(hS.sub (.cons le_45 (.rr (.rr (.zz .nn))))), ?_⟩
    exact (hGD_3 _ _ _ _).1 (hD_21 _ _ ⟨v_51, N_54, (h.to rfl), (hS.sel [0, 1, 2, 1002, 4, 5] (by decide)), le_45, hr_44⟩)
   have hD_24 : ∀ (a : Act) (w_76 : World), (∃ (N_55 : Mem), Fr 60 a [(0, iV x0), (2, .pointer (some ⟨g_1, 0, none⟩)), (4, .pointer (some ⟨g_24, 0, none⟩)), (15, iV (w64 ((Int.tmod (band .i64 x0 31) 13) + 0))), (18, iV (band .i64 (shr .i64 x0 8) 7)), (20, iV (shr .i64 x0 11)), (22, v_2), (28, .string ⟨t_4.toArray⟩)] ∧ Sep w0 w_76 [N_55, bx g_1 24 [iV 0, iV 0, nS, nS, nS], M_1, Mem.no, bx g_24 24 [iV 0, iV 0, nS, nS, nS], M_16] Z ∧ N_1.le N_55) → GD_3 4 (bA 21 654847) a w_76 := by
    rintro a w_76 ⟨N_55, h, hS, le_46⟩
    refine (hGD_3 _ _ _ _).2 <| h_evs [9, 17] (by kernel_rfl) ⟨⟨_, (bA 21 655359), rfl, by kernel_rfl, ?_⟩, ⟨_, (bA 21 785919), rfl, by kernel_rfl, ?_⟩, trivial⟩
    ·refine s_call h rfl Try.call83 rfl (hocketlaw7_Keys.calls (shr .i64 x0 11) t_3 w0 _ _ _ mr (hS.enter [] (by decide))  et_3) ?_
     rintro v_52 w_77 ⟨_, N_56, rfl, hS', hr_45⟩
     intro a h
     obtain ⟨N_57, hS'', le_47, ln_10⟩ := hS.call [] (by decide) rfl (l' := []) (ow := []) rfl hS'
     replace hS : Sep w0 w_77 [N_57, _, _, _, _, _] Z := hS''
     refine ne (hS.sub (.cons (le_46.trans le_47) (.rr (.rr (.zz .nn))))) fun hs => ?_
     exact (hGD_3 _ _ _ _).1 (hD_21 _ _ ⟨v_52, N_57, (h.to rfl), (hS.sel [0, 1, 2, 1002, 4, 5] (by decide)), (le_46.trans le_47), (hr_45.mono ln_10)⟩)
    ·refine s_s2b h rfl U9 U22 U5 rfl (must_some eu_2) hS fun w_78 v_53 M_18 hS' hr_46 a h => ?_
     obtain ⟨N_58, hS'', le_48, lo_11⟩ := Sep.freeze (l := [bx g_1 24 [iV 0, iV 0, nS, nS, nS], M_1, Mem.no, bx g_24 24 [iV 0, iV 0, nS, nS, nS], M_16, M_18]) hS' 5 rfl
     replace hS : Sep w0 w_78 [N_58, _, _, _, _, _, _] Z := hS''
     refine ne (hS.sub (.cons (le_46.trans le_48) (.rr (.rr (.zz .nn))))) fun hs => ?_
     exact (hGD_3 _ _ _ _).1 (hD_22 _ _ ⟨v_53, N_58, (h.to rfl), (hS.sel [0, 1, 2, 1002, 4, 5] (by decide)), (le_46.trans le_48), (hr_46.mono lo_11)⟩)
   refine (hGD_3 _ _ _ _).2 <| h_evs [9, 16] (by kernel_rfl) ⟨⟨_, (bA 21 589823), rfl, by kernel_rfl, ?_⟩, ⟨_, (bA 21 654847), rfl, by kernel_rfl, ?_⟩, trivial⟩
   ·refine s_call h rfl Try.call83 rfl (hocketlaw7_Keys.calls (shr .i64 x0 11) t_3 w0 _ _ _ mr (hS.enter [] (by decide))  et_3) ?_
    rintro v_54 w_79 ⟨_, N_59, rfl, hS', hr_47⟩
    intro a h
    obtain ⟨N_60, hS'', le_49, ln_11⟩ := hS.call [] (by decide) rfl (l' := []) (ow := []) rfl hS'
    replace hS : Sep w0 w_79 [N_60, _, _, _, _, _] Z := hS''
    refine ne (hS.sub (.cons le_49 (.rr (.rr (.zz .nn))))) fun hs => ?_
    exact (hGD_3 _ _ _ _).1 (hD_23 _ _ ⟨v_54, N_60, (h.to rfl), (hS.sel [0, 1, 2, 1002, 4, 5] (by decide)), le_49, (hr_47.mono ln_11)⟩)
   ·refine s_load h rfl rfl (el_one (o := 0) (fun j c h => Mem.cell_le (hS.own 5) (hc_10 j c h)) U9 rfl rfl) fun a h=>wpList_nil <| x_then_n ⟨(hS.sub (.cons mr (.rr (.rr (.zz .nn))))), ?_⟩
    exact (hGD_3 _ _ _ _).1 (hD_24 _ _ ⟨N_1, (h.to rfl), (hS.sel [0, 1, 2, 1002, 4, 5] (by decide)), mr⟩)

set_option maxHeartbeats 4000000 in
set_option maxRecDepth 20000 in
theorem hocketlaw10_Entry.calls (x0 : Int) (x1 : Int) (r : api_Entry) (w0 w : World) (Z A : Mem) (hA : A.le Z) (hS : Sep w0 w [] Z)
    (H : hocketlaw10_Entry.f x0 x1 = some r) :
    Calls Try.prog 34 [iV x0, iV x1].toArray w (Ret fun v w' => ∃ (u0 : Value) (u1 : Value) (u2 : Value) (N : Mem), v = .agg (E26 r u0 u1 u2).toArray ∧ Sep w0 w' [N] Z ∧ Rd Kd.u8 N u0 r.Cmd.Key ∧ Rd Kd.u8 N u1 r.Cmd.Val ∧ Rd Kd.u8 N u2 r.Cmd.Old) := by
 unfold hocketlaw10_Entry.f at H
 refine f_enter _ Try.func34 rfl Try.ntmps34 rfl fun a h=>?_
 replace h : Fr 20 a [(0, iV x0), (1, iV x1)] := h
 replace hS := hS.start
 refine qr <| v_alloc h rfl ti26 hS fun w_1 g_1 hS' a h => ?_
 replace hS : Sep w0 w_1 [_, bx g_1 26 [iV 0, iV 0, iV 0, iV 0, nS, nS, nS]] Z := hS'
 refine nx <| qr <| mv h rfl fun a h=>s_shift (r := shr .i64 x0 25) h rfl rfl rfl (by decide) (.inr ⟨rfl, rfl⟩) fun a h=>s_bits (i := shr .i64 x0 25) (j := 7) (r := band .i64 (shr .i64 x0 25) 7) h rfl rfl rfl (.inl ⟨rfl, rfl⟩) fun a h=>s_div (r := Int.tmod (band .i64 (shr .i64 x0 25) 7) 6) h rfl rfl rfl (by decide) (.inr ⟨rfl, rfl⟩) fun a h=>s_arith (r := w64 ((Int.tmod (band .i64 (shr .i64 x0 25) 7) 6) + 1)) h rfl rfl rfl (.inl ⟨rfl, rfl⟩) fun a h=>mv h rfl fun a h=>s_div (r := w64 (Int.tdiv x1 3)) h rfl rfl rfl (by decide) (.inl ⟨rfl, rfl⟩) fun a h=>mv h rfl fun a h=>?_
 refine s_shift (r := shr .i64 x0 28) h rfl rfl rfl (by decide) (.inr ⟨rfl, rfl⟩) fun a h=>s_bits (i := shr .i64 x0 28) (j := 1) (r := band .i64 (shr .i64 x0 28) 1) h rfl rfl rfl (.inl ⟨rfl, rfl⟩) fun a h=>s_arith (r := w64 ((w64 (Int.tdiv x1 3)) + (band .i64 (shr .i64 x0 28) 1))) h rfl rfl rfl (.inl ⟨rfl, rfl⟩) fun a h=>s_arith (r := w64 ((w64 ((w64 (Int.tdiv x1 3)) + (band .i64 (shr .i64 x0 28) 1))) + 1)) h rfl rfl rfl (.inl ⟨rfl, rfl⟩) fun a h=>mv h rfl fun a h=>?_
 obtain ⟨t_1, et_1, H⟩ := bs H
 refine s_call h rfl Try.call62 rfl (hocketlaw8_Cmd.calls x0 t_1 w0 _ _ _ mr (hS.enter [] (by decide))  et_1) ?_
 rintro _ w_2 ⟨v_1, v_2, v_3, N_1, rfl, hS', hr_1, hr_2, hr_3⟩
 intro a h
 obtain ⟨N_2, hS'', le_1, ln_1⟩ := hS.call [] (by decide) rfl (l' := []) (ow := []) rfl hS'
 replace hS : Sep w0 w_2 [N_2, _] Z := hS''
 refine s_build h rfl ti26 pl26 rfl (.cons rfl (.cons rfl (.cons rfl .nil))) (cs := [iV (w64 ((Int.tmod (band .i64 (shr .i64 x0 25) 7) 6) + 1)), iV (w64 ((w64 ((w64 (Int.tdiv x1 3)) + (band .i64 (shr .i64 x0 28) 1))) + 1)), iV t_1.Kind, iV t_1.Who, v_1, v_2, v_3]) (by kernel_rfl) fun a h=>?_
 refine sto 1 h rfl rfl hS rfl ti26 rfl rfl rfl (oa 4 rfl (oc (hr_1.mono ln_1).one (oc (hr_2.mono ln_1).one (oc (hr_3.mono ln_1).one on0)))) fun w_3 hS' => ?_
 replace hS : Sep w0 w_3 [_, Mem.one g_1 (.cells ([iV (w64 ((Int.tmod (band .i64 (shr .i64 x0 25) 7) 6) + 1)), iV (w64 ((w64 ((w64 (Int.tdiv x1 3)) + (band .i64 (shr .i64 x0 28) 1))) + 1)), iV t_1.Kind, iV t_1.Who, v_1, v_2, v_3] : List Value).toArray 26 (0, 0))] Z := hS'
 refine nx <| wp_ret ?_
 obtain rfl := Option.some.inj H
 exact f_ret h (rs := [.cell 4 26]) rfl (.cell rfl (hS.load_agg (p := 1) (us := [iV (w64 ((Int.tmod (band .i64 (shr .i64 x0 25) 7) 6) + 1)), iV (w64 ((w64 ((w64 (Int.tdiv x1 3)) + (band .i64 (shr .i64 x0 28) 1))) + 1)), iV t_1.Kind, iV t_1.Who, v_1, v_2, v_3]) rfl U26 rfl ti26 rfl rfl) .nil) ⟨_, rfl, v_1, v_2, v_3, N_2, rfl, (hS.sel [0] (by decide)), (hr_1.mono ln_1), (hr_2.mono ln_1), (hr_3.mono ln_1)⟩

set_option maxHeartbeats 4000000 in
set_option maxRecDepth 20000 in
theorem hocketref4_named.calls (x0 : Int) (x1 : Int) (r : Bool) (w0 w : World) (Z A : Mem) (hA : A.le Z) (hS : Sep w0 w [] Z)
    (H : hocketref4_named.f x0 x1 = some r) :
    Calls Try.prog 85 [iV x0, iV x1].toArray w (Ret fun v w' => ∃ (N : Mem), v = .bool r ∧ Sep w0 w' [N] Z) := by
 unfold hocketref4_named.f at H
 refine f_enter _ Try.func85 rfl Try.ntmps85 rfl fun a h=>?_
 replace h : Fr 19 a [(0, iV x0), (1, iV x1)] := h
 replace hS := hS.start
 refine qr <| sg h rfl fun a h=>nx <| c_seq fun KJ_1 hKJ_1 => wp_region_lit <| mv h rfl fun a h=>s_cmp (b := decide (x0 ≥ 1)) h rfl rfl rfl (.inr (.inr (.inr (.inr (.inr ⟨rfl, rfl⟩))))) fun a h=>mv h rfl fun a h=>?_
 obtain ⟨hc_1, H⟩ | ⟨hc_1, H⟩ := ii H
 ·refine s_on h rfl rfl (dt hc_1) <| mv h rfl fun a h=>s_on h rfl rfl (dt hc_1) <| s_cmp (b := decide (x1 ≥ 1)) h rfl rfl rfl (.inr (.inr (.inr (.inr (.inr ⟨rfl, rfl⟩))))) fun a h=>pt h rfl (dt hc_1) fun a h=>mv h rfl fun a h=>?_
  obtain ⟨hc_2, H⟩ | ⟨hc_2, H⟩ := ii H
  ·refine s_on h rfl rfl (dt hc_2) <| mv h rfl fun a h=>s_on h rfl rfl (dt hc_2) <| s_cmp (b := decide (x0 ≤ 1073741824)) h rfl rfl rfl (.inr (.inr (.inr (.inl ⟨rfl, rfl⟩)))) fun a h=>pt h rfl (dt hc_2) fun a h=>mv h rfl fun a h=>?_
   obtain ⟨hc_3, H⟩ | ⟨hc_3, H⟩ := ii H
   ·refine s_on h rfl rfl (dt hc_3) <| mv h rfl fun a h=>s_on h rfl rfl (dt hc_3) <| s_cmp (b := decide (x1 ≤ 1073741824)) h rfl rfl rfl (.inr (.inr (.inr (.inl ⟨rfl, rfl⟩)))) fun a h=>pt h rfl (dt hc_3) fun a h=>sg h rfl fun a h=>wpList_nil <| x_then_n (hKJ_1 _ _ ?_)
    refine wp_ret ?_
    obtain rfl := Option.some.inj H
    exact r1 h 4 rfl rfl ⟨_, rfl, Mem.no, rfl, (hS.sel [0] (by decide))⟩
   ·refine of h rfl rfl (df hc_3) fun a h=>of h rfl rfl (df hc_3) fun a h=>pf h rfl (df hc_3) fun a h=>sg h rfl fun a h=>wpList_nil <| x_then_n (hKJ_1 _ _ ?_)
    refine wp_ret ?_
    obtain rfl := Option.some.inj H
    exact r1 h 4 rfl rfl ⟨_, rfl, Mem.no, rfl, (hS.sel [0] (by decide))⟩
  ·refine of h rfl rfl (df hc_2) fun a h=>of h rfl rfl (df hc_2) fun a h=>pf h rfl (df hc_2) fun a h=>mv h rfl fun a h=>oo h rfl rfl fun a h=>oo h rfl rfl fun a h=>pf h rfl rfl fun a h=>sg h rfl fun a h=>wpList_nil <| x_then_n (hKJ_1 _ _ ?_)
   refine wp_ret ?_
   obtain rfl := Option.some.inj H
   exact r1 h 4 rfl rfl ⟨_, rfl, Mem.no, rfl, (hS.sel [0] (by decide))⟩
 ·refine of h rfl rfl (df hc_1) fun a h=>of h rfl rfl (df hc_1) fun a h=>pf h rfl (df hc_1) fun a h=>mv h rfl fun a h=>oo h rfl rfl fun a h=>oo h rfl rfl fun a h=>pf h rfl rfl fun a h=>mv h rfl fun a h=>oo h rfl rfl fun a h=>oo h rfl rfl fun a h=>pf h rfl rfl fun a h=>sg h rfl fun a h=>?_
  refine wpList_nil <| x_then_n (hKJ_1 _ _ ?_)
  refine wp_ret ?_
  obtain rfl := Option.some.inj H
  exact r1 h 4 rfl rfl ⟨_, rfl, Mem.no, rfl, (hS.sel [0] (by decide))⟩

set_option maxHeartbeats 4000000 in
set_option maxRecDepth 20000 in
theorem hocketref4_bad.calls (x0 : Int) (r : api_Result) (w0 w : World) (Z A : Mem) (hA : A.le Z) (hS : Sep w0 w [] Z)
    (H : hocketref4_bad.f x0 = some r) :
    Calls Try.prog 98 [iV x0].toArray w (Ret fun v w' => ∃ (u0 : Value) (N : Mem) (M0 : Mem), v = .agg (E91 r u0).toArray ∧ Sep w0 w' [N, M0] Z ∧ Own Kd.u8 5 M0 Mem.no u0 r.Val) := by
 unfold hocketref4_bad.f at H
 refine f_enter _ Try.func98 rfl Try.ntmps98 rfl fun a h=>?_
 replace h : Fr 5 a [(0, iV x0)] := h
 replace hS := hS.start
 refine qr <| v_alloc h rfl ti91 hS fun w_1 g_1 hS' a h => ?_
 replace hS : Sep w0 w_1 [_, bx g_1 91 [iV 0, nS, iV 0]] Z := hS'
 refine nx <| qr <| mv h rfl fun a h=>s_build h rfl ti91 pl91 rfl (.cons rfl .nil) (cs := [iV x0, nS, iV 0]) (by kernel_rfl) fun a h=>?_
 refine sto 1 h rfl rfl hS rfl ti91 rfl rfl rfl (oz rfl) fun w_2 hS' => ?_
 replace hS : Sep w0 w_2 [_, bx g_1 91 [iV x0, _, _]] Z := hS'
 refine nx <| wp_ret ?_
 have hS' := hS.room
 replace hS : Sep w0 w_2 [_, _, Mem.no] Z := hS'
 obtain rfl := Option.some.inj H
 exact f_ret h (rs := [.cell 2 91]) rfl (.cell rfl (hS.load_agg (p := 1) (us := [iV x0, nS, iV 0]) rfl U91 rfl ti91 rfl rfl) .nil) ⟨_, rfl, nS, Mem.no, Mem.no, rfl, (hS.sel [0, 2] (by decide)), (Own.nil Kd.u8 5 Mem.no)⟩

set_option maxHeartbeats 4000000 in
set_option maxRecDepth 20000 in
theorem hocketref4_at.calls (K : Nat) (x0 : List api_Last) (p0_0 : Value) (x1 : Int) (r : Int) (w0 w : World) (Z A : Mem) (hA : A.le Z) (hS : Sep w0 w [] Z) (hp0_0 : Rd k_api_Last A p0_0 x0)
    (H : hocketref4_at.f K x0 x1 = some r) :
    Calls Try.prog 99 [p0_0, iV x1].toArray w (Ret fun v w' => ∃ (N : Mem), v = iV r ∧ Sep w0 w' [N] Z) := by
 unfold hocketref4_at.f at H
 refine f_enter _ Try.func99 rfl Try.ntmps99 rfl fun a h=>?_
 replace h : Fr 22 a [(0, p0_0), (1, iV x1)] := h
 replace hS := hS.start
 refine qr <| sg h rfl fun a h=>nx <| qr <| sg h rfl fun a h=>nx <| c_seq fun KJ_1 hKJ_1 => ?_
 have hJ_j_1 : ∀ (x_1 : Int), hocketref4_at.J1 K x_1 = some r → ∀ (a : Act) (w_1 : World), (∃ (N_1 : Mem), Fr 22 a [(4, iV 0), (5, iV x_1)] ∧ Sep w0 w_1 [N_1] Z ∧ Mem.no.le N_1) → KJ_1 a w_1 := by
  clear H h hS a
  rintro x_1 H a w_1 ⟨N_1, h, hS, le_1⟩
  unfold hocketref4_at.J1 at H
  refine hKJ_1 _ _ <| qr <| mv h rfl fun a h=>sg h rfl fun a h=>nx <| wp_ret ?_
  obtain rfl := Option.some.inj H
  exact r1 h 4 rfl rfl ⟨_, rfl, N_1, rfl, (hS.sel [0] (by decide))⟩
 clear hKJ_1
 refine c_block <| c_loop (fun k_1 a w_2 => ∃ (x_2 : Int) (N_2 : Mem), hocketref4_at.L1 K x0 x1 (fun v => hocketref4_at.J1 K v) k_1 x_2 = some r ∧ Fr 22 a [(0, p0_0), (1, iV x1), (4, iV 0), (5, iV x_2)] ∧ Sep w0 w_2 [N_2] Z ∧ Mem.no.le N_2) K ⟨0, Mem.no, H, (h.to rfl), (hS.sel [0] (by decide)), mr⟩ (fun a w h => by obtain ⟨_, _, H, _⟩ := h; cases (show (none : Option (Int)) = some r from H)) ?_
 clear h hS a H
 rintro k_1 a w_2 KL_1 hKL_1 ⟨x_2, N_2, H, h, hS, le_2⟩
 replace H : hocketref4_at.B1 K x0 x1 (fun v => hocketref4_at.J1 K v) (hocketref4_at.L1 K x0 x1 (fun v => hocketref4_at.J1 K v) k_1) x_2 = some r := H
 unfold hocketref4_at.B1 at H
 refine c_seq fun KJ_2 hKJ_2 => c_seq fun KJ_3 hKJ_3 => wp_region_lit <| mv h rfl fun a h=>mv h rfl fun a h=>s_len h rfl U33 rfl hp0_0 fun a h=>s_cmp (b := decide (x_2 < (x0.length : Int))) h rfl rfl rfl (.inr (.inr (.inl ⟨rfl, rfl⟩))) fun a h=>mv h rfl fun a h=>?_
 obtain ⟨hc_1, H⟩ | ⟨hc_1, H⟩ := ii H
 ·refine s_on h rfl rfl (dt hc_1) <| mv h rfl fun a h=>s_on h rfl rfl (dt hc_1) <| mv h rfl fun a h=>s_on h rfl rfl (dt hc_1) ?_
  obtain ⟨t_1, et_1, H⟩ := bs H
  refine v_index h rfl U33 ti93 rfl rfl rfl hp0_0 (hA.trans hS.old) et_1 fun ad_1 cs_1 hk_1 hc_2 => ?_
  obtain ⟨v_1, rfl, hr_1⟩ := k_api_Last.open' hk_1
  intro a h
  refine s_on h rfl rfl (dt hc_1) <| s_fieldAddr h rfl U93 rfl ti3 rfl rfl fun a h=>s_on h rfl rfl (dt hc_1) <| s_load h rfl rfl (el_one (o := 0) hc_2 U3 rfl rfl) fun a h=>s_on h rfl rfl (dt hc_1) <| mv h rfl fun a h=>s_on h rfl rfl (dt hc_1) <| s_cmp (b := decide (t_1.Sess < x1)) h rfl rfl rfl (.inr (.inr (.inl ⟨rfl, rfl⟩))) fun a h=>pt h rfl (dt hc_1) fun a h=>wpList_nil <| x_then_n (hKJ_3 _ _ ?_)
  obtain ⟨hc_3, H⟩ | ⟨hc_3, H⟩ := ii H
  ·refine c_cond_t h rfl (dt hc_3) <| wp_skip <| x_then_n (hKJ_2 _ _ ?_)
   refine c_block <| wp_region_lit <| mv h rfl fun a h=>s_arith (r := w64 (x_2 + 1)) h rfl rfl rfl (.inl ⟨rfl, rfl⟩) fun a h=>sg h rfl fun a h=>wpList_nil ?_
   replace h : Fr 22 a [(0, _), (1, _), (4, _), (5, iV (w64 (x_2 + 1)))] := h.keep [0, 1, 4, 5]
   refine x_block_n <| x_then_n (hKL_1 _ _ ?_)
   exact ⟨w64 (x_2 + 1), N_2, H, (h.to rfl), (hS.sel [0] (by decide)), le_2⟩
  ·refine c_cond_f h rfl (df hc_3) <| wp_exit (x_then_x (x_then_x (x_block_t ?_)))
   exact x_then_n (hJ_j_1 x_2 H _ _ ⟨N_2, (h.to rfl), (hS.sel [0] (by decide)), le_2⟩)
 ·refine of h rfl rfl (df hc_1) fun a h=>of h rfl rfl (df hc_1) fun a h=>of h rfl rfl (df hc_1) fun a h=>of h rfl rfl (df hc_1) fun a h=>of h rfl rfl (df hc_1) fun a h=>of h rfl rfl (df hc_1) fun a h=>of h rfl rfl (df hc_1) fun a h=>pf h rfl (df hc_1) fun a h=>wpList_nil <| x_then_n (hKJ_3 _ _ ?_)
  refine c_cond_f h rfl rfl <| wp_exit (x_then_x (x_then_x (x_block_t ?_)))
  exact x_then_n (hJ_j_1 x_2 H _ _ ⟨N_2, (h.to rfl), (hS.sel [0] (by decide)), le_2⟩)

set_option maxHeartbeats 4000000 in
set_option maxRecDepth 20000 in
theorem hocketref4_own.calls (x0 : List UInt8) (p0_0 : Value) (r : (List UInt8)) (w0 w : World) (Z A : Mem) (hA : A.le Z) (hS : Sep w0 w [] Z) (hp0_0 : Rd Kd.u8 A p0_0 x0)
    (H : hocketref4_own.f x0 = some r) :
    Calls Try.prog 101 [p0_0].toArray w (Ret fun v w' => ∃ (u0 : Value) (N : Mem) (M0 : Mem), v = u0 ∧ Sep w0 w' [N, M0] Z ∧ Own Kd.u8 5 M0 Mem.no u0 r) := by
 unfold hocketref4_own.f at H
 refine f_enter _ Try.func101 rfl Try.ntmps101 rfl fun a h=>?_
 replace h : Fr 6 a [(0, p0_0)] := h
 replace hS := hS.start
 refine qr <| sg h rfl fun a h=>nx <| wp_seq <| wp_region_lit ?_
 have hq_1 : Reps Kd.u8 Mem.no ([] : List UInt8) _ := (Reps.nil Kd.u8 _)
 refine s_buildSlice h rfl U22 ti5 rfl rfl rfl .nil rfl rfl rfl hS hq_1 rfl fun w_1 v_1 M_1 hS' ho_1 a h => ?_
 replace hS : Sep w0 w_1 [_, M_1] Z := hS'
 refine mv h rfl fun a h=>?_
 obtain ⟨t_1, et_1, H⟩ := bs H
 refine s_append (J := Mem.no) (I' := Mem.no) (p := 1) 140737488355328 h rfl rfl rfl U22 ti5 rfl rfl rfl rfl hS rfl ho_1 (Src.flat flat_u8 (hp0_0.src (hA.trans hS.old))) mr mr et_1 fun w_2 v_2 M_2 hS' ho_2 a h => ?_
 replace hS : Sep w0 w_2 [_, M_2] Z := hS'
 refine sg h rfl fun a h=>nx <| wp_ret ?_
 obtain rfl := Option.some.inj H
 exact r1 h 2 rfl rfl ⟨_, rfl, v_2, Mem.no, M_2, rfl, (hS.sel [0, 1] (by decide)), ho_2⟩

set_option maxHeartbeats 4000000 in
set_option maxRecDepth 20000 in
theorem hocketref4_result.calls (x0 : api_Result) (p0_0 : Value) (r : api_Result) (w0 w : World) (Z A : Mem) (hA : A.le Z) (hS : Sep w0 w [] Z) (hp0_0 : Rd Kd.u8 A p0_0 x0.Val)
    (H : hocketref4_result.f x0 = some r) :
    Calls Try.prog 100 [.agg (E91 x0 p0_0).toArray].toArray w (Ret fun v w' => ∃ (u0 : Value) (N : Mem) (M0 : Mem), v = .agg (E91 r u0).toArray ∧ Sep w0 w' [N, M0] Z ∧ Own Kd.u8 5 M0 Mem.no u0 r.Val) := by
 unfold hocketref4_result.f at H
 refine f_enter _ Try.func100 rfl Try.ntmps100 rfl fun a h=>?_
 replace h : Fr 8 a [(0, .agg (E91 x0 p0_0).toArray)] := h
 replace hS := hS.start
 refine qr <| v_box (vs := (E91 x0 p0_0)) h rfl rfl rfl hS fun w_1 g_1 hS' a h => ?_
 replace hS : Sep w0 w_1 [_, bx g_1 91 (E91 x0 p0_0)] Z := hS'
 refine v_alloc h rfl ti91 hS fun w_2 g_2 hS' a h => ?_
 replace hS : Sep w0 w_2 [_, _, bx g_2 91 [iV 0, nS, iV 0]] Z := hS'
 refine nx <| qr <| s_fieldAddr h rfl U91 rfl ti22 rfl rfl fun a h=>s_load h rfl rfl (hS.load_one (p := 1) rfl U22 rfl rfl) fun a h=>?_
 obtain ⟨t_1, et_1, H⟩ := bs H
 refine s_call h rfl Try.call101 rfl (hocketref4_own.calls x0.Val _ t_1 w0 _ _ _ mr (hS.enter [] (by decide)) (hp0_0.mono (hA.trans (hS.le_zed []))) et_1) ?_
 rintro v_1 w_3 ⟨_, N_1, M_1, rfl, hS', hr_1⟩
 intro a h
 obtain ⟨N_2, hS'', le_1, ln_1⟩ := hS.call [] (by decide) rfl (l' := []) (ow := [_]) rfl hS'
 replace hS : Sep w0 w_3 [N_2, _, _, _] Z := hS''
 refine s_fieldAddr h rfl U91 rfl ti22 rfl rfl fun a h=>?_
 refine sto 1 h rfl rfl hS rfl ti22 hr_1.cellsA rfl rfl (oc hr_1.one on0) fun w_4 hS' => ?_
 replace hS : Sep w0 w_4 [_, bx g_1 91 [_, v_1, _], _, _] Z := hS'
 refine nx <| qr <| s_load h rfl rfl (hS.load_agg (p := 1) (us := (E91 x0 v_1)) rfl U91 rfl ti91 rfl rfl) fun a h=>?_
 refine sto 2 h rfl rfl hS rfl ti91 rfl rfl rfl (oa 1 rfl (oc hr_1.one (oz rfl))) fun w_5 hS' => ?_
 replace hS : Sep w0 w_5 [_, _, bx g_2 91 (E91 x0 v_1), _] Z := hS'
 refine nx <| wp_ret ?_
 obtain rfl := Option.some.inj H
 exact f_ret h (rs := [.cell 2 91]) rfl (.cell rfl (hS.load_agg (p := 2) (us := (E91 x0 v_1)) rfl U91 rfl ti91 rfl rfl) .nil) ⟨_, rfl, v_1, N_2, M_1, rfl, (hS.sel [0, 3] (by decide)), hr_1⟩

set_option maxHeartbeats 4000000 in
set_option maxRecDepth 20000 in
theorem hocketref4_Look.calls (K : Nat) (x0 : List api_Last) (p0_0 : Value) (x1 : Int) (x2 : Int) (r : api_Result × Int) (w0 w : World) (Z A : Mem) (hA : A.le Z) (hS : Sep w0 w [] Z) (hp0_0 : Rd k_api_Last A p0_0 x0)
    (H : hocketref4_Look.f K x0 x1 x2 = some r) :
    Calls Try.prog 79 [p0_0, iV x1, iV x2].toArray w (Ret fun v w' => ∃ (u0 : Value) (N : Mem) (M0 : Mem), v = .tuple [.agg (E91 r.1 u0).toArray, iV r.2].toArray ∧ Sep w0 w' [N, M0] Z ∧ Own Kd.u8 5 M0 Mem.no u0 r.1.Val) := by
 unfold hocketref4_Look.f at H
 refine f_enter _ Try.func79 rfl Try.ntmps79 rfl fun a h=>?_
 replace h : Fr 59 a [(0, p0_0), (1, iV x1), (2, iV x2)] := h
 replace hS := hS.start
 refine qr <| v_alloc h rfl ti91 hS fun w_1 g_1 hS' a h => ?_
 replace hS : Sep w0 w_1 [_, bx g_1 91 [iV 0, nS, iV 0]] Z := hS'
 refine sg h rfl fun a h=>nx <| c_seq fun KJ_1 hKJ_1 => qr <| mv h rfl fun a h=>mv h rfl fun a h=>?_
 obtain ⟨t_1, et_1, H⟩ := bs H
 refine s_call h rfl Try.call85 rfl (hocketref4_named.calls x1 x2 t_1 w0 _ _ _ mr (hS.enter [] (by decide))  et_1) ?_
 rintro _ w_2 ⟨N_1, rfl, hS'⟩
 intro a h
 obtain ⟨N_2, hS'', le_1, ln_1⟩ := hS.call [] (by decide) rfl (l' := []) (ow := []) rfl hS'
 replace hS : Sep w0 w_2 [N_2, _] Z := hS''
 refine s_not h rfl rfl fun a h=>wpList_nil <| x_then_n ?_
 obtain ⟨hc_1, H⟩ | ⟨hc_1, H⟩ := ii H
 ·refine c_cond_f h rfl (nf hc_1) <| wp_skip <| x_then_n (hKJ_1 _ _ ?_)
  refine qr <| mv h rfl fun a h=>mv h rfl fun a h=>?_
  obtain ⟨t_2, et_2, H⟩ := bs H
  refine s_call h rfl Try.call99 rfl (hocketref4_at.calls K x0 _ x1 t_2 w0 _ _ _ mr (hS.enter [] (by decide)) (hp0_0.mono (hA.trans (hS.le_zed []))) et_2) ?_
  rintro _ w_3 ⟨N_3, rfl, hS'⟩
  intro a h
  obtain ⟨N_4, hS'', le_2, ln_2⟩ := hS.call [] (by decide) rfl (l' := []) (ow := []) rfl hS'
  replace hS : Sep w0 w_3 [N_4, _] Z := hS''
  refine sg h rfl fun a h=>nx <| c_seq fun KJ_2 hKJ_2 => c_seq fun KJ_3 hKJ_3 => ?_
  have hJ_j_1 : ∀ (x_1 : Bool), hocketref4_Look.J1 K x0 t_2 x2 x_1 = some r → ∀ (a : Act) (w_4 : World), (∃ (N_5 : Mem), Fr 59 a [(0, p0_0), (2, iV x2), (6, .pointer (some ⟨g_1, 0, none⟩)), (7, iV 0), (8, iV t_2), (29, .bool x_1)] ∧ Sep w0 w_4 [N_5, bx g_1 91 [iV 0, nS, iV 0]] Z ∧ N_4.le N_5) → KJ_3 a w_4 := by
   clear H h hS a
   rintro x_1 H a w_4 ⟨N_5, h, hS, le_3⟩
   unfold hocketref4_Look.J1 at H
   refine hKJ_3 _ _ ?_
   obtain ⟨hc_2, H⟩ | ⟨hc_2, H⟩ := ii H
   ·refine c_cond_t h rfl hc_2 <| c_seq fun KJ_4 hKJ_4 => qr <| mv h rfl fun a h=>s_len h rfl U33 rfl hp0_0 fun a h=>s_cmp (b := decide ((x0.length : Int) ≥ 8)) h rfl rfl rfl (.inr (.inr (.inr (.inr (.inr ⟨rfl, rfl⟩))))) fun a h=>wpList_nil ?_
    replace h : Fr 59 a [(0, _), (2, _), (6, _), (7, _), (8, _), (32, .bool (decide ((x0.length : Int) ≥ 8)))] := h.keep [0, 2, 6, 7, 8, 32]
    refine x_then_n ?_
    obtain ⟨hc_3, H⟩ | ⟨hc_3, H⟩ := ii H
    ·refine c_cond_t h rfl (dt hc_3) <| wp_seq <| wp_region_lit ?_
     obtain ⟨t_3, et_3, H⟩ := bs H
     refine s_call h rfl Try.call98 rfl (hocketref4_bad.calls 9 t_3 w0 _ _ _ mr (hS.enter [] (by decide))  et_3) ?_
     rintro _ w_5 ⟨v_1, N_6, M_1, rfl, hS', hr_1⟩
     intro a h
     obtain ⟨N_7, hS'', le_4, ln_3⟩ := hS.call [] (by decide) rfl (l' := []) (ow := [_]) rfl hS'
     replace hS : Sep w0 w_5 [N_7, _, _] Z := hS''
     refine sto 1 h rfl rfl hS rfl ti91 rfl rfl rfl (oa 1 rfl (oc hr_1.one (oz rfl))) fun w_6 hS' => ?_
     replace hS : Sep w0 w_6 [_, bx g_1 91 (E91 t_3 v_1), _] Z := hS'
     refine sg h rfl fun a h=>nx <| wp_ret (x_then_r (x_then_r ?_))
     obtain rfl := Option.some.inj H
     exact f_ret h (rs := [.cell 6 91, .tmp 7]) rfl (.cell rfl (hS.load_agg (p := 1) (us := (E91 t_3 v_1)) rfl U91 rfl ti91 rfl rfl) (.tmp rfl .nil)) ⟨_, rfl, v_1, N_7, M_1, rfl, (hS.sel [0, 2] (by decide)), hr_1⟩
    ·refine c_cond_f h rfl (df hc_3) <| wp_skip <| x_then_n (hKJ_4 _ _ ?_)
     refine qr <| s_build h rfl ti91 pl91 rfl .nil (cs := [iV 0, nS, iV 0]) (by kernel_rfl) fun a h=>?_
     refine sto 1 h rfl rfl hS rfl ti91 rfl rfl rfl (oz rfl) fun w_7 hS' => ?_
     replace hS : Sep w0 w_7 [_, _] Z := hS'
     refine sg h rfl fun a h=>nx <| wp_ret (x_then_r ?_)
     have hS' := hS.room
     replace hS : Sep w0 w_7 [_, _, Mem.no] Z := hS'
     obtain rfl := Option.some.inj H
     exact f_ret h (rs := [.cell 6 91, .tmp 7]) rfl (.cell rfl (hS.load_agg (p := 1) (us := [iV 0, nS, iV 0]) rfl U91 rfl ti91 rfl rfl) (.tmp rfl .nil)) ⟨_, rfl, nS, N_5, Mem.no, rfl, (hS.sel [0, 2] (by decide)), (Own.nil Kd.u8 5 Mem.no)⟩
   ·refine c_cond_f h rfl (ef hc_2) <| wp_skip <| x_then_n (hKJ_2 _ _ ?_)
    refine c_seq fun KJ_5 hKJ_5 => c_block <| qr <| mv h rfl fun a h=>mv h rfl fun a h=>mv h rfl fun a h=>?_
    obtain ⟨t_4, et_4, H⟩ := bs H
    refine v_index h rfl U33 ti93 rfl rfl rfl hp0_0 (hA.trans hS.old) et_4 fun ad_1 cs_1 hk_1 hc_4 => ?_
    obtain ⟨v_2, rfl, hr_2⟩ := k_api_Last.open' hk_1
    intro a h
    refine s_fieldAddr h rfl U93 rfl ti3 rfl rfl fun a h=>s_load h rfl rfl (el_one (o := 1) hc_4 U3 rfl rfl) fun a h=>s_cmp (b := decide (x2 < t_4.Seq)) h rfl rfl rfl (.inr (.inr (.inl ⟨rfl, rfl⟩))) fun a h=>sg h rfl fun a h=>wpList_nil ?_
    replace h : Fr 59 a [(0, _), (2, _), (6, _), (7, _), (8, _), (35, .bool (decide (x2 < t_4.Seq)))] := h.keep [0, 2, 6, 7, 8, 35]
    refine x_then_n ?_
    obtain ⟨hc_5, H⟩ | ⟨hc_5, H⟩ := ii H
    ·refine c_cond_t h rfl (dt hc_5) <| wp_seq <| wp_region_lit ?_
     obtain ⟨t_5, et_5, H⟩ := bs H
     refine s_call h rfl Try.call98 rfl (hocketref4_bad.calls 8 t_5 w0 _ _ _ mr (hS.enter [] (by decide))  et_5) ?_
     rintro _ w_8 ⟨v_3, N_8, M_2, rfl, hS', hr_3⟩
     intro a h
     obtain ⟨N_9, hS'', le_5, ln_4⟩ := hS.call [] (by decide) rfl (l' := []) (ow := [_]) rfl hS'
     replace hS : Sep w0 w_8 [N_9, _, _] Z := hS''
     refine sto 1 h rfl rfl hS rfl ti91 rfl rfl rfl (oa 1 rfl (oc hr_3.one (oz rfl))) fun w_9 hS' => ?_
     replace hS : Sep w0 w_9 [_, bx g_1 91 (E91 t_5 v_3), _] Z := hS'
     refine sg h rfl fun a h=>nx <| wp_ret (x_block_r (x_then_r ?_))
     obtain rfl := Option.some.inj H
     exact f_ret h (rs := [.cell 6 91, .tmp 7]) rfl (.cell rfl (hS.load_agg (p := 1) (us := (E91 t_5 v_3)) rfl U91 rfl ti91 rfl rfl) (.tmp rfl .nil)) ⟨_, rfl, v_3, N_9, M_2, rfl, (hS.sel [0, 2] (by decide)), hr_3⟩
    ·refine c_cond_f h rfl (df hc_5) <| qr <| mv h rfl fun a h=>mv h rfl fun a h=>mv h rfl fun a h=>?_
     obtain ⟨t_6, et_6, H⟩ := bs H
     refine v_index h rfl U33 ti93 rfl rfl rfl hp0_0 (hA.trans hS.old) et_6 fun ad_2 cs_2 hk_2 hc_6 => ?_
     obtain ⟨v_4, rfl, hr_4⟩ := k_api_Last.open' hk_2
     intro a h
     refine s_fieldAddr h rfl U93 rfl ti3 rfl rfl fun a h=>s_load h rfl rfl (el_one (o := 1) hc_6 U3 rfl rfl) fun a h=>s_cmp (b := (x2 == t_6.Seq)) h rfl rfl rfl (.inl ⟨rfl, rfl⟩) fun a h=>sg h rfl fun a h=>wpList_nil <| x_then_n ?_
     obtain ⟨hc_7, H⟩ | ⟨hc_7, H⟩ := ii H
     ·refine c_cond_t h rfl (bt hc_7) <| qr <| mv h rfl fun a h=>mv h rfl fun a h=>?_
      obtain ⟨t_7, et_7, H⟩ := bs H
      refine v_index h rfl U33 ti93 rfl rfl rfl hp0_0 (hA.trans hS.old) et_7 fun ad_3 cs_3 hk_3 hc_8 => ?_
      obtain ⟨v_5, rfl, hr_5⟩ := k_api_Last.open' hk_3
      intro a h
      refine s_fieldAddr h rfl U93 rfl ti91 rfl rfl fun a h=>s_load h rfl rfl (el_agg (o := 2) (us := (E91 t_7.Result v_5)) hc_8 U91 rfl ti91 rfl rfl) fun a h=>?_
      obtain ⟨t_8, et_8, H⟩ := bs H
      refine s_call h rfl Try.call100 rfl (hocketref4_result.calls t_7.Result _ t_8 w0 _ _ _ mr (hS.enter [] (by decide)) (hr_5.mono (hA.trans (hS.le_zed []))) et_8) ?_
      rintro _ w_10 ⟨v_6, N_10, M_3, rfl, hS', hr_6⟩
      intro a h
      obtain ⟨N_11, hS'', le_6, ln_5⟩ := hS.call [] (by decide) rfl (l' := []) (ow := [_]) rfl hS'
      replace hS : Sep w0 w_10 [N_11, _, _] Z := hS''
      refine sto 1 h rfl rfl hS rfl ti91 rfl rfl rfl (oa 1 rfl (oc hr_6.one (oz rfl))) fun w_11 hS' => ?_
      replace hS : Sep w0 w_11 [_, bx g_1 91 (E91 t_8 v_6), _] Z := hS'
      refine sg h rfl fun a h=>nx <| wp_ret (x_block_r (x_then_r ?_))
      obtain rfl := Option.some.inj H
      exact f_ret h (rs := [.cell 6 91, .tmp 7]) rfl (.cell rfl (hS.load_agg (p := 1) (us := (E91 t_8 v_6)) rfl U91 rfl ti91 rfl rfl) (.tmp rfl .nil)) ⟨_, rfl, v_6, N_11, M_3, rfl, (hS.sel [0, 2] (by decide)), hr_6⟩
     ·refine c_cond_f h rfl (bf hc_7) <| wp_skip <| x_block_n <| x_then_n (hKJ_5 _ _ ?_)
      refine qr <| s_build h rfl ti91 pl91 rfl .nil (cs := [iV 0, nS, iV 0]) (by kernel_rfl) fun a h=>?_
      refine sto 1 h rfl rfl hS rfl ti91 rfl rfl rfl (oz rfl) fun w_12 hS' => ?_
      replace hS : Sep w0 w_12 [_, _] Z := hS'
      refine sg h rfl fun a h=>nx <| wp_ret ?_
      have hS' := hS.room
      replace hS : Sep w0 w_12 [_, _, Mem.no] Z := hS'
      obtain rfl := Option.some.inj H
      exact f_ret h (rs := [.cell 6 91, .tmp 7]) rfl (.cell rfl (hS.load_agg (p := 1) (us := [iV 0, nS, iV 0]) rfl U91 rfl ti91 rfl rfl) (.tmp rfl .nil)) ⟨_, rfl, nS, N_5, Mem.no, rfl, (hS.sel [0, 2] (by decide)), (Own.nil Kd.u8 5 Mem.no)⟩
  clear hKJ_3
  refine wp_region_lit <| mv h rfl fun a h=>mv h rfl fun a h=>s_len h rfl U33 rfl hp0_0 fun a h=>s_cmp (b := (t_2 == (x0.length : Int))) h rfl rfl rfl (.inl ⟨rfl, rfl⟩) fun a h=>mv h rfl fun a h=>?_
  obtain ⟨hc_9, H⟩ | ⟨hc_9, H⟩ := ii H
  ·refine of h rfl rfl (bt hc_9) fun a h=>of h rfl rfl (bt hc_9) fun a h=>of h rfl rfl (bt hc_9) fun a h=>of h rfl rfl (bt hc_9) fun a h=>of h rfl rfl (bt hc_9) fun a h=>of h rfl rfl (bt hc_9) fun a h=>of h rfl rfl (bt hc_9) fun a h=>pt h rfl (bt hc_9) fun a h=>wpList_nil ?_
   replace h : Fr 59 a [(0, _), (2, _), (6, .pointer (some ⟨g_1, 0, none⟩)), (7, iV 0), (8, iV t_2), (29, .bool true)] := h.keep [0, 2, 6, 7, 8, 29]
   exact x_then_n (hJ_j_1 true H _ _ ⟨N_4, (h.to rfl), (hS.sel [0, 1] (by decide)), mr⟩)
  ·refine s_on h rfl rfl (bf hc_9) <| mv h rfl fun a h=>s_on h rfl rfl (bf hc_9) <| mv h rfl fun a h=>s_on h rfl rfl (bf hc_9) ?_
   obtain ⟨t_9, et_9, H⟩ := bs H
   refine v_index h rfl U33 ti93 rfl rfl rfl hp0_0 (hA.trans hS.old) et_9 fun ad_4 cs_4 hk_4 hc_10 => ?_
   obtain ⟨v_7, rfl, hr_7⟩ := k_api_Last.open' hk_4
   intro a h
   refine s_on h rfl rfl (bf hc_9) <| s_fieldAddr h rfl U93 rfl ti3 rfl rfl fun a h=>s_on h rfl rfl (bf hc_9) <| s_load h rfl rfl (el_one (o := 0) hc_10 U3 rfl rfl) fun a h=>s_on h rfl rfl (bf hc_9) <| mv h rfl fun a h=>s_on h rfl rfl (bf hc_9) <| s_cmp (b := (t_9.Sess != x1)) h rfl rfl rfl (.inr (.inl ⟨rfl, rfl⟩)) fun a h=>pf h rfl (bf hc_9) fun a h=>wpList_nil ?_
   replace h : Fr 59 a [(0, _), (2, _), (6, .pointer (some ⟨g_1, 0, none⟩)), (7, iV 0), (8, iV t_2), (29, .bool (t_9.Sess != x1))] := h.keep [0, 2, 6, 7, 8, 29]
   exact x_then_n (hJ_j_1 (t_9.Sess != x1) H _ _ ⟨N_4, (h.to rfl), (hS.sel [0, 1] (by decide)), mr⟩)
 ·refine c_cond_t h rfl (nt (ef hc_1)) <| wp_seq <| wp_region_lit ?_
  obtain ⟨t_10, et_10, H⟩ := bs H
  refine s_call h rfl Try.call98 rfl (hocketref4_bad.calls 10 t_10 w0 _ _ _ mr (hS.enter [] (by decide))  et_10) ?_
  rintro _ w_13 ⟨v_8, N_12, M_4, rfl, hS', hr_8⟩
  intro a h
  obtain ⟨N_13, hS'', le_7, ln_6⟩ := hS.call [] (by decide) rfl (l' := []) (ow := [_]) rfl hS'
  replace hS : Sep w0 w_13 [N_13, _, _] Z := hS''
  refine sto 1 h rfl rfl hS rfl ti91 rfl rfl rfl (oa 1 rfl (oc hr_8.one (oz rfl))) fun w_14 hS' => ?_
  replace hS : Sep w0 w_14 [_, bx g_1 91 (E91 t_10 v_8), _] Z := hS'
  refine sg h rfl fun a h=>nx <| wp_ret (x_then_r ?_)
  obtain rfl := Option.some.inj H
  exact f_ret h (rs := [.cell 6 91, .tmp 7]) rfl (.cell rfl (hS.load_agg (p := 1) (us := (E91 t_10 v_8)) rfl U91 rfl ti91 rfl rfl) (.tmp rfl .nil)) ⟨_, rfl, v_8, N_13, M_4, rfl, (hS.sel [0, 2] (by decide)), hr_8⟩

set_option maxHeartbeats 4000000 in
set_option maxRecDepth 20000 in
theorem hocketref4_rows.calls (K : Nat) (x0 : List (List UInt8)) (p0_0 : Value) (r : (List (List UInt8))) (w0 w : World) (Z A : Mem) (hA : A.le Z) (hS : Sep w0 w [] Z) (hp0_0 : Rd (Kd.slice Kd.u8) A p0_0 x0)
    (H : hocketref4_rows.f K x0 = some r) :
    Calls Try.prog 102 [p0_0].toArray w (Ret fun v w' => ∃ (u0 : Value) (N : Mem) (M0 : Mem), v = u0 ∧ Sep w0 w' [N, M0] Z ∧ Own (Kd.slice Kd.u8) 22 M0 N u0 r) := by
 unfold hocketref4_rows.f at H
 refine f_enter _ Try.func102 rfl Try.ntmps102 rfl fun a h=>?_
 replace h : Fr 20 a [(0, p0_0)] := h
 replace hS := hS.start
 refine qr <| sg h rfl fun a h=>nx <| qr <| sg h rfl fun a h=>nx <| c_seq fun KJ_1 hKJ_1 => wp_seq <| wp_region_lit ?_
 refine sg h rfl fun a h=>wpList_nil <| x_then_n ?_
 have hJ_j_1 : ∀ (x_1 : List (List UInt8)), hocketref4_rows.J1 K x_1 = some r → ∀ (a : Act) (w_1 : World), (∃ (v_1 : Value) (N_1 : Mem) (M_1 : Mem), Fr 20 a [(2, nS), (3, v_1)] ∧ Sep w0 w_1 [N_1, M_1] Z ∧ Mem.no.le N_1 ∧ Own (Kd.slice Kd.u8) 22 M_1 N_1 v_1 x_1) → KJ_1 a w_1 := by
  clear H h hS a
  rintro x_1 H a w_1 ⟨v_1, N_1, M_1, h, hS, le_1, ho_1⟩
  unfold hocketref4_rows.J1 at H
  refine hKJ_1 _ _ <| qr <| mv h rfl fun a h=>sg h rfl fun a h=>wpList_nil ?_
  replace h : Fr 20 a [(2, v_1)] := h.keep [2]
  refine x_then_n <| wp_ret ?_
  obtain rfl := Option.some.inj H
  exact r1 h 2 rfl rfl ⟨_, rfl, v_1, N_1, M_1, rfl, (hS.sel [0, 1] (by decide)), (ho_1.mono mr)⟩
 clear hKJ_1
 have hS' := hS.room
 replace hS : Sep w0 w [_, Mem.no] Z := hS'
 refine c_block <| c_loop (fun k_1 a w_2 => ∃ (x_2 : List (List UInt8)) (x_3 : Int) (v_2 : Value) (N_2 : Mem) (M_2 : Mem), hocketref4_rows.L1 K x0 (fun v => hocketref4_rows.J1 K v) k_1 (x_2, x_3) = some r ∧ Fr 20 a [(0, p0_0), (2, nS), (3, v_2), (4, iV x_3)] ∧ Sep w0 w_2 [N_2, M_2] Z ∧ Mem.no.le N_2 ∧ Own (Kd.slice Kd.u8) 22 M_2 N_2 v_2 x_2) K ⟨([] : List (List UInt8)), 0, nS, Mem.no, Mem.no, H, (h.to rfl), (hS.sel [0, 1] (by decide)), mr, ((Own.nil (Kd.slice Kd.u8) 22 Mem.no).mono mr)⟩ (fun a w h => by obtain ⟨_, _, _, _, _, H, _⟩ := h; cases (show (none : Option ((List (List UInt8)))) = some r from H)) ?_
 clear h hS a H
 rintro k_1 a w_2 KL_1 hKL_1 ⟨x_2, x_3, v_2, N_2, M_2, H, h, hS, le_2, ho_2⟩
 replace H : hocketref4_rows.B1 K x0 (fun v => hocketref4_rows.J1 K v) (hocketref4_rows.L1 K x0 (fun v => hocketref4_rows.J1 K v) k_1) x_2 x_3 = some r := H
 unfold hocketref4_rows.B1 at H
 refine c_seq fun KJ_2 hKJ_2 => qr <| mv h rfl fun a h=>mv h rfl fun a h=>s_len h rfl U28 rfl hp0_0 fun a h=>s_cmp (b := decide (x_3 < (x0.length : Int))) h rfl rfl rfl (.inr (.inr (.inl ⟨rfl, rfl⟩))) fun a h=>wpList_nil ?_
 replace h : Fr 20 a [(0, _), (2, _), (3, _), (4, _), (8, .bool (decide (x_3 < (x0.length : Int))))] := h.keep [0, 2, 3, 4, 8]
 refine x_then_n ?_
 obtain ⟨hc_1, H⟩ | ⟨hc_1, H⟩ := ii H
 ·refine c_cond_t h rfl (dt hc_1) <| wp_skip <| x_then_n (hKJ_2 _ _ ?_)
  refine wp_seq <| c_block <| wp_region_lit <| mv h rfl fun a h=>mv h rfl fun a h=>mv h rfl fun a h=>?_
  obtain ⟨t_1, et_1, H⟩ := bs H
  refine v_index h rfl U28 ti22 rfl rfl rfl hp0_0 (hA.trans hS.old) et_1 fun ad_1 cs_1 hk_1 hc_2 => ?_
  obtain ⟨v_3, rfl, hr_1⟩ := hk_1
  intro a h
  refine s_load h rfl rfl (el_one (o := 0) hc_2 U22 rfl rfl) fun a h=>?_
  obtain ⟨t_2, et_2, H⟩ := bs H
  refine s_call h rfl Try.call101 rfl (hocketref4_own.calls t_1 _ t_2 w0 _ _ _ mr (hS.enter [] (by decide)) (hr_1.mono (hA.trans (hS.le_zed []))) et_2) ?_
  rintro v_4 w_3 ⟨_, N_3, M_3, rfl, hS', hr_2⟩
  intro a h
  obtain ⟨N_4, hS'', le_3, ln_1⟩ := hS.call [] (by decide) rfl (l' := []) (ow := [_]) rfl hS'
  replace hS : Sep w0 w_3 [N_4, _, _] Z := hS''
  obtain ⟨N_5, hS', le_4, lo_1⟩ := hS.freeze 1 rfl
  replace hS : Sep w0 w_3 [N_5, _, Mem.no] Z := hS'
  have hq_1 : Reps (Kd.slice Kd.u8) N_5 ([t_2] : List (List UInt8)) _ := ((Reps.one (d := (Kd.slice Kd.u8)) (x := t_2) ⟨_, rfl, (hr_2.rd lo_1 (Mem.no_le _))⟩).append (Reps.nil (Kd.slice Kd.u8) _))
  refine s_buildSlice h rfl U28 ti22 rfl rfl rfl (.cons (hr_2.rd lo_1 (Mem.no_le _)).cells .nil) rfl rfl rfl hS hq_1 rfl fun w_4 v_5 M_4 hS' ho_3 a h => ?_
  replace hS : Sep w0 w_4 [_, _, _, M_4] Z := hS'
  obtain ⟨t_3, et_3, H⟩ := bs H
  refine s_append (J := N_5) (I' := N_5) (p := 1) 5864062014805 h rfl rfl rfl U28 ti22 rfl rfl rfl rfl hS rfl ho_2 (ho_3.src (hS.own 3)) (le_3.trans le_4) mr et_3 fun w_5 v_6 M_5 hS' ho_4 a h => ?_
  replace hS : Sep w0 w_5 [_, M_5, _, _] Z := hS'
  refine sg h rfl fun a h=>wpList_nil <| x_block_n <| x_then_n <| wp_region_lit <| mv h rfl fun a h=>s_arith (r := w64 (x_3 + 1)) h rfl rfl rfl (.inl ⟨rfl, rfl⟩) fun a h=>sg h rfl fun a h=>wpList_nil <| x_then_n (hKL_1 _ _ ?_)
  exact ⟨t_3, w64 (x_3 + 1), v_6, N_5, M_5, H, (h.to rfl), (hS.sel [0, 1] (by decide)), (le_2.trans (le_3.trans le_4)), (ho_4.mono mr)⟩
 ·refine c_cond_f h rfl (df hc_1) <| wp_exit (x_then_x (x_then_x (x_block_t ?_)))
  exact x_then_n (hJ_j_1 x_2 H _ _ ⟨v_2, N_2, M_2, (h.to rfl), (hS.sel [0, 1] (by decide)), le_2, (ho_2.mono mr)⟩)

set_option maxHeartbeats 4000000 in
set_option maxRecDepth 20000 in
theorem hocketref4_pairs.calls (K : Nat) (x0 : List api_Pair) (p0_0 : Value) (r : (List api_Pair)) (w0 w : World) (Z A : Mem) (hA : A.le Z) (hS : Sep w0 w [] Z) (hp0_0 : Rd k_api_Pair A p0_0 x0)
    (H : hocketref4_pairs.f K x0 = some r) :
    Calls Try.prog 103 [p0_0].toArray w (Ret fun v w' => ∃ (u0 : Value) (N : Mem) (M0 : Mem), v = u0 ∧ Sep w0 w' [N, M0] Z ∧ Own k_api_Pair 88 M0 N u0 r) := by
 unfold hocketref4_pairs.f at H
 refine f_enter _ Try.func103 rfl Try.ntmps103 rfl fun a h=>?_
 replace h : Fr 28 a [(0, p0_0)] := h
 replace hS := hS.start
 refine qr <| sg h rfl fun a h=>nx <| qr <| sg h rfl fun a h=>nx <| c_seq fun KJ_1 hKJ_1 => wp_seq <| wp_region_lit ?_
 refine sg h rfl fun a h=>wpList_nil <| x_then_n ?_
 have hJ_j_1 : ∀ (x_1 : List api_Pair), hocketref4_pairs.J1 K x_1 = some r → ∀ (a : Act) (w_1 : World), (∃ (v_1 : Value) (N_1 : Mem) (M_1 : Mem), Fr 28 a [(2, nS), (3, v_1)] ∧ Sep w0 w_1 [N_1, M_1] Z ∧ Mem.no.le N_1 ∧ Own k_api_Pair 88 M_1 N_1 v_1 x_1) → KJ_1 a w_1 := by
  clear H h hS a
  rintro x_1 H a w_1 ⟨v_1, N_1, M_1, h, hS, le_1, ho_1⟩
  unfold hocketref4_pairs.J1 at H
  refine hKJ_1 _ _ <| qr <| mv h rfl fun a h=>sg h rfl fun a h=>wpList_nil ?_
  replace h : Fr 28 a [(2, v_1)] := h.keep [2]
  refine x_then_n <| wp_ret ?_
  obtain rfl := Option.some.inj H
  exact r1 h 2 rfl rfl ⟨_, rfl, v_1, N_1, M_1, rfl, (hS.sel [0, 1] (by decide)), (ho_1.mono mr)⟩
 clear hKJ_1
 have hS' := hS.room
 replace hS : Sep w0 w [_, Mem.no] Z := hS'
 refine c_block <| c_loop (fun k_1 a w_2 => ∃ (x_2 : List api_Pair) (x_3 : Int) (v_2 : Value) (N_2 : Mem) (M_2 : Mem), hocketref4_pairs.L1 K x0 (fun v => hocketref4_pairs.J1 K v) k_1 (x_2, x_3) = some r ∧ Fr 28 a [(0, p0_0), (2, nS), (3, v_2), (4, iV x_3)] ∧ Sep w0 w_2 [N_2, M_2] Z ∧ Mem.no.le N_2 ∧ Own k_api_Pair 88 M_2 N_2 v_2 x_2) K ⟨([] : List api_Pair), 0, nS, Mem.no, Mem.no, H, (h.to rfl), (hS.sel [0, 1] (by decide)), mr, ((Own.nil k_api_Pair 88 Mem.no).mono mr)⟩ (fun a w h => by obtain ⟨_, _, _, _, _, H, _⟩ := h; cases (show (none : Option ((List api_Pair))) = some r from H)) ?_
 clear h hS a H
 rintro k_1 a w_2 KL_1 hKL_1 ⟨x_2, x_3, v_2, N_2, M_2, H, h, hS, le_2, ho_2⟩
 replace H : hocketref4_pairs.B1 K x0 (fun v => hocketref4_pairs.J1 K v) (hocketref4_pairs.L1 K x0 (fun v => hocketref4_pairs.J1 K v) k_1) x_2 x_3 = some r := H
 unfold hocketref4_pairs.B1 at H
 refine c_seq fun KJ_2 hKJ_2 => qr <| mv h rfl fun a h=>mv h rfl fun a h=>s_len h rfl U30 rfl hp0_0 fun a h=>s_cmp (b := decide (x_3 < (x0.length : Int))) h rfl rfl rfl (.inr (.inr (.inl ⟨rfl, rfl⟩))) fun a h=>wpList_nil ?_
 replace h : Fr 28 a [(0, _), (2, _), (3, _), (4, _), (8, .bool (decide (x_3 < (x0.length : Int))))] := h.keep [0, 2, 3, 4, 8]
 refine x_then_n ?_
 obtain ⟨hc_1, H⟩ | ⟨hc_1, H⟩ := ii H
 ·refine c_cond_t h rfl (dt hc_1) <| wp_skip <| x_then_n (hKJ_2 _ _ ?_)
  refine c_seq fun KJ_3 hKJ_3 => c_block <| h_begin (S := fun w => Sep w0 w [N_2, Mem.no] Z) 17 (by kernel_rfl) rfl (bA 17 0) (by kernel_rfl) hS fun w_3 hS => ?_
  refine t_take 0 (bA 17 1) rfl rfl rfl rfl h (hS.sub (.cons mr (.zz .ii))) (v := v_2) (fun w hS => r_move h rfl) fun a h=>t_take 1 (bA 17 3) rfl rfl rfl rfl h (hS.sub (.cons mr (.zz .ii))) (v := p0_0) (fun w hS => r_move h rfl) fun a h=>t_take 2 (bA 17 7) rfl rfl rfl rfl h (hS.sub (.cons mr (.zz .ii))) (v := iV x_3) (fun w hS => r_move h rfl) fun a h=>?_
  obtain ⟨t_1, et_1, H⟩ := bs H
  refine t_takeE 3 (bA 17 15) rfl rfl rfl rfl h (hS.sub (.cons mr (.zz .ii))) (f := fun ad => .pointer (some ad)) (r_index h U30 ti88 rfl rfl rfl hp0_0 et_1) ?_
  rintro ad_1 ⟨cs_1, hk_1, hc_2⟩
  obtain ⟨v_3, v_4, rfl, hr_1, hr_2⟩ := k_api_Pair.open' hk_1
  intro a h
  refine t_take 4 (bA 17 31) rfl rfl rfl rfl h (hS.sub (.cons mr (.zz .ii))) (v := .pointer (some (ad_1.add 0))) (fun w hS => r_fieldAddr h U88 rfl ti22 rfl rfl rfl) fun a h=>t_take 5 (bA 17 63) rfl rfl rfl rfl h (hS.sub (.cons mr (.zz .ii))) (v := v_3) (fun w hS => r_load h rfl (el_one (o := 0) (fun j c h => Mem.cell_le (hA.trans hS.old) (hc_2 j c h)) U22 rfl rfl)) fun a h=>t_take 7 (bA 17 191) rfl rfl rfl rfl h (hS.sub (.cons mr (.zz .ii))) (v := p0_0) (fun w hS => r_move h rfl) fun a h=>t_take 8 (bA 17 447) rfl rfl rfl rfl h (hS.sub (.cons mr (.zz .ii))) (v := iV x_3) (fun w hS => r_move h rfl) fun a h=>?_
  obtain ⟨t_2, et_2, H⟩ := bs H
  refine t_takeE 9 (bA 17 959) rfl rfl rfl rfl h (hS.sub (.cons mr (.zz .ii))) (f := fun ad => .pointer (some ad)) (r_index h U30 ti88 rfl rfl rfl hp0_0 et_2) ?_
  rintro ad_2 ⟨cs_2, hk_2, hc_3⟩
  obtain ⟨v_5, v_6, rfl, hr_3, hr_4⟩ := k_api_Pair.open' hk_2
  intro a h
  refine t_take 10 (bA 17 1983) rfl rfl rfl rfl h (hS.sub (.cons mr (.zz .ii))) (v := .pointer (some (ad_2.add 1))) (fun w hS => r_fieldAddr h U88 rfl ti22 rfl rfl rfl) fun a h=>t_take 11 (bA 17 4031) rfl rfl rfl rfl h (hS.sub (.cons mr (.zz .ii))) (v := v_6) (fun w hS => r_load h rfl (el_one (o := 1) (fun j c h => Mem.cell_le (hA.trans hS.old) (hc_3 j c h)) U22 rfl rfl)) fun a h=>h_event 6 (bA 17 4095) rfl (by kernel_rfl) (by kernel_rfl) ?_
  obtain ⟨t_3, et_3, H⟩ := bs H
  refine s_call h rfl Try.call101 rfl (hocketref4_own.calls t_1.Key _ t_3 w0 _ _ _ mr (hS.enter [] (by decide)) (hr_1.mono (hA.trans (hS.le_zed []))) et_3) ?_
  rintro v_7 w_4 ⟨_, N_3, M_3, rfl, hS', hr_5⟩
  intro a h
  obtain ⟨N_4, hS'', le_3, ln_1⟩ := hS.call [] (by decide) rfl (l' := []) (ow := [_]) rfl hS'
  replace hS : Sep w0 w_4 [N_4, _, _] Z := hS''
  refine ne (hS.sub (.cons le_3 (.zz .nn))) fun hs => ?_
  refine h_event 12 (bA 17 8191) rfl (by kernel_rfl) (by kernel_rfl) ?_
  obtain ⟨t_4, et_4, H⟩ := bs H
  refine s_call h rfl Try.call101 rfl (hocketref4_own.calls t_2.Val _ t_4 w0 _ _ _ mr (hS.enter [] (by decide)) (hr_4.mono (hA.trans (hS.le_zed []))) et_4) ?_
  rintro v_8 w_5 ⟨_, N_5, M_4, rfl, hS', hr_6⟩
  intro a h
  obtain ⟨N_6, hS'', le_4, ln_2⟩ := hS.call [] (by decide) rfl (l' := []) (ow := [_]) rfl hS'
  replace hS : Sep w0 w_5 [N_6, _, _, _] Z := hS''
  refine ne (hS.sub (.cons (le_3.trans le_4) (.zz .nn))) fun hs => ?_
  refine t_take 13 (bA 17 16383) rfl rfl rfl rfl h hs (v := .agg ([v_7, v_8] : List Value).toArray) (fun w hS => r_build h ti88 pl88 rfl (.cons hr_5.cells (.cons hr_6.cells .nil)) (cs := [v_7, v_8]) (by kernel_rfl)) fun a h=>h_event 14 (bA 17 32767) rfl (by kernel_rfl) (by kernel_rfl) ?_
  obtain ⟨N_7, hS', le_5, lo_1⟩ := hS.freeze 1 rfl
  replace hS : Sep w0 w_5 [N_7, _, Mem.no, _] Z := hS'
  obtain ⟨N_8, hS', le_6, lo_2⟩ := hS.freeze 2 rfl
  replace hS : Sep w0 w_5 [N_8, _, _, Mem.no] Z := hS'
  have hq_1 : Reps k_api_Pair N_8 ([(⟨t_3, t_4⟩ : api_Pair)] : List api_Pair) _ := ((Reps.one (d := k_api_Pair) (x := (⟨t_3, t_4⟩ : api_Pair)) (k_api_Pair.mk' ((hr_5.rd lo_1 (Mem.no_le _)).mono le_6) (hr_6.rd lo_2 (Mem.no_le _)))).append (Reps.nil k_api_Pair _))
  refine s_buildSlice h rfl U30 ti88 rfl rfl rfl (.cons rfl .nil) rfl rfl rfl hS hq_1 rfl fun w_6 v_9 M_5 hS' ho_3 a h => ?_
  replace hS : Sep w0 w_6 [_, _, _, _, M_5] Z := hS'
  refine ne (hS.sub (.cons (le_3.trans (le_4.trans (le_5.trans le_6))) (.zz .nn))) fun hs => ?_
  refine h_event 15 (bA 17 65535) rfl (by kernel_rfl) (by kernel_rfl) ?_
  obtain ⟨t_5, et_5, H⟩ := bs H
  refine s_append (J := N_8) (I' := N_8) (p := 1) 2932031007402 h rfl rfl rfl U30 ti88 rfl rfl rfl rfl hS rfl ho_2 (ho_3.src (hS.own 4)) (le_3.trans (le_4.trans (le_5.trans le_6))) mr et_5 fun w_7 v_10 M_6 hS' ho_4 a h => ?_
  replace hS : Sep w0 w_7 [_, M_6, _, _, _] Z := hS'
  refine ne (hS.sub (.cons (le_3.trans (le_4.trans (le_5.trans le_6))) (.zz .nn))) fun hs => ?_
  refine t_take 16 (bA 17 131071) rfl rfl rfl rfl h hs (v := v_10) (fun w hS => r_assign h rfl) fun a h=>h_done (by kernel_rfl) <| x_block_n <| x_then_n (hKJ_3 _ _ ?_)
  refine wp_region_lit <| mv h rfl fun a h=>s_arith (r := w64 (x_3 + 1)) h rfl rfl rfl (.inl ⟨rfl, rfl⟩) fun a h=>sg h rfl fun a h=>wpList_nil <| x_then_n (hKL_1 _ _ ?_)
  exact ⟨t_5, w64 (x_3 + 1), v_10, N_8, M_6, H, (h.to rfl), (hS.sel [0, 1] (by decide)), (le_2.trans (le_3.trans (le_4.trans (le_5.trans le_6)))), (ho_4.mono mr)⟩
 ·refine c_cond_f h rfl (df hc_1) <| wp_exit (x_then_x (x_then_x (x_block_t ?_)))
  exact x_then_n (hJ_j_1 x_2 H _ _ ⟨v_2, N_2, M_2, (h.to rfl), (hS.sel [0, 1] (by decide)), le_2, (ho_2.mono mr)⟩)

set_option maxHeartbeats 4000000 in
set_option maxRecDepth 20000 in
theorem hocketref4_Read.calls (x0 : List UInt8) (p0_0 : Value) (r : api_Result) (w0 w : World) (Z A : Mem) (hA : A.le Z) (hS : Sep w0 w [] Z) (hp0_0 : Rd Kd.u8 A p0_0 x0)
    (H : hocketref4_Read.f x0 = some r) :
    Calls Try.prog 104 [p0_0].toArray w (Ret fun v w' => ∃ (u0 : Value) (N : Mem) (M0 : Mem), v = .agg (E91 r u0).toArray ∧ Sep w0 w' [N, M0] Z ∧ Own Kd.u8 5 M0 Mem.no u0 r.Val) := by
 unfold hocketref4_Read.f at H
 refine f_enter _ Try.func104 rfl Try.ntmps104 rfl fun a h=>?_
 replace h : Fr 6 a [(0, p0_0)] := h
 replace hS := hS.start
 refine qr <| v_alloc h rfl ti91 hS fun w_1 g_1 hS' a h => ?_
 replace hS : Sep w0 w_1 [_, bx g_1 91 [iV 0, nS, iV 0]] Z := hS'
 refine nx <| qr <| mv h rfl fun a h=>?_
 obtain ⟨t_1, et_1, H⟩ := bs H
 refine s_call h rfl Try.call101 rfl (hocketref4_own.calls x0 _ t_1 w0 _ _ _ mr (hS.enter [] (by decide)) (hp0_0.mono (hA.trans (hS.le_zed []))) et_1) ?_
 rintro v_1 w_2 ⟨_, N_1, M_1, rfl, hS', hr_1⟩
 intro a h
 obtain ⟨N_2, hS'', le_1, ln_1⟩ := hS.call [] (by decide) rfl (l' := []) (ow := [_]) rfl hS'
 replace hS : Sep w0 w_2 [N_2, _, _] Z := hS''
 refine s_build h rfl ti91 pl91 rfl (.cons hr_1.cells .nil) (cs := [iV 0, v_1, iV 0]) (by kernel_rfl) fun a h=>?_
 refine sto 1 h rfl rfl hS rfl ti91 rfl rfl rfl (oa 1 rfl (oc hr_1.one (oz rfl))) fun w_3 hS' => ?_
 replace hS : Sep w0 w_3 [_, bx g_1 91 [_, v_1, _], _] Z := hS'
 refine nx <| wp_ret ?_
 obtain rfl := Option.some.inj H
 exact f_ret h (rs := [.cell 2 91]) rfl (.cell rfl (hS.load_agg (p := 1) (us := [iV 0, v_1, iV 0]) rfl U91 rfl ti91 rfl rfl) .nil) ⟨_, rfl, v_1, N_2, M_1, rfl, (hS.sel [0, 2] (by decide)), hr_1⟩


end Go.Proofs
