/- What the calls do: each function once. -/
import Derived.Test.YtabedbggldnkhaaToknOwnc2
namespace Go.Proofs
open Go.Gp
set_option linter.unusedVariables false
set_option maxHeartbeats 4000000 in
set_option maxRecDepth 20000 in
theorem hocketlaw17_Token.calls (K : Nat) (x0 : List Int) (p0_0 : Value) (r : api_Msg) (w0 w : World) (Z A : Mem) (hA : A.le Z) (hS : Sep w0 w [] Z) (hp0_0 : Rd (Kd.int .i64) A p0_0 x0)
    (H : hocketlaw17_Token.f K x0 = some r) :
    Calls Try.prog 38 [p0_0].toArray w (Ret fun v w' => ∃ (u0 : Value) (u1 : Value) (u2 : Value) (u3 : Value) (u4 : Value) (u5 : Value) (N : Mem) (M0 : Mem) (M1 : Mem) (M2 : Mem) (M3 : Mem) (M4 : Mem) (M5 : Mem), v = .agg [.int .i64 r.Kind, .int .i64 r.From, .int .i64 r.To, .int .i64 r.View, .int .i64 r.Inst, .int .i64 r.Len, .bool r.Has, .int .i64 r.Members, .int .i64 r.Source, .int .i64 r.At, .int .i64 r.Total, u0, .int .i64 r.Hop, .int .i64 r.Seq, u1, u2, .int .i64 r.Index, .int .i64 r.Entry.Sess, .int .i64 r.Entry.Seq, .int .i64 r.Entry.Cmd.Kind, .int .i64 r.Entry.Cmd.Who, u3, u4, u5].toArray ∧ Sep w0 w' [N, M0, M1, M2, M3, M4, M5] Z ∧ Own Kd.u8 5 M0 Mem.no u0 r.Data ∧ Own (Kd.int .i64) 3 M1 Mem.no u1 r.Have ∧ Own (Kd.int .i64) 3 M2 Mem.no u2 r.Need ∧ Own Kd.u8 5 M3 Mem.no u3 r.Entry.Cmd.Key ∧ Own Kd.u8 5 M4 Mem.no u4 r.Entry.Cmd.Val ∧ Own Kd.u8 5 M5 Mem.no u5 r.Entry.Cmd.Old) := by
  unfold hocketlaw17_Token.f at H
  refine f_enter _ Try.func38 rfl Try.ntmps38 rfl fun a hm => ?_
  replace hm : Fr 72 a [(0, p0_0)] := hm
  replace hS := hS.start
  replace hS : Sep w0 w [Mem.no] Z := hS
  refine wp_seq ?_
  refine wp_region_lit ?_
  refine v_box (vs := [p0_0]) hm rfl rfl hp0_0.cellsA hS ?_
  intro w_1 g_2 hS'
  clear hm a; intro a hm
  replace hS : Sep w0 w_1 [Mem.no, Mem.one g_2 (.cells ([p0_0] : List Value).toArray 23 (0, 0))] Z := hS'
  clear hS'
  refine v_alloc hm rfl ti29 hS ?_
  intro w_3 g_4 hS'
  clear hm a; intro a hm
  replace hS : Sep w0 w_3 [Mem.no, Mem.one g_2 (.cells ([p0_0] : List Value).toArray 23 (0, 0)), Mem.one g_4 (.cells ([.int .i64 0, .int .i64 0, .int .i64 0, .int .i64 0, .int .i64 0, .int .i64 0, .bool false, .int .i64 0, .int .i64 0, .int .i64 0, .int .i64 0, .slice none 0 0, .int .i64 0, .int .i64 0, .slice none 0 0, .slice none 0 0, .int .i64 0, .int .i64 0, .int .i64 0, .int .i64 0, .int .i64 0, .slice none 0 0, .slice none 0 0, .slice none 0 0] : List Value).toArray 29 (0, 0))] Z := hS'
  clear hS'
  refine wpList_nil ?_
  replace hm : Fr 72 a [(1, .pointer (some ⟨g_2, 0, none⟩)), (2, .pointer (some ⟨g_4, 0, none⟩))] := hm.keep [1, 2]
  refine x_then_n ?_
  refine wp_seq ?_
  refine wp_region_lit ?_
  refine s_func hm rfl rfl ?_
  clear hm a; intro a hm
  refine s_assign hm rfl rfl ?_
  clear hm a; intro a hm
  refine wpList_nil ?_
  replace hm : Fr 72 a [(2, .pointer (some ⟨g_4, 0, none⟩)), (3, .func (.func 65) #[] [.pointer (some ⟨g_2, 0, none⟩)].toArray)] := hm.keep [2, 3]
  refine x_then_n ?_
  refine wp_seq ?_
  refine wp_region_lit ?_
  refine s_move hm rfl rfl ?_
  clear hm a; intro a hm
  obtain ⟨t_5, et_5, H⟩ := Option.bind_eq_some_iff.1 H
  refine s_callv hm rfl rfl Try.call65 rfl (hocketlaw17_Token_1.calls 0 _ x0 _ t_5 w0 _ _ _ (Mem.le.refl _) (hS.enter [0] (by decide)) (hp0_0.mono (hA.trans (hS.le_zed [0]))) et_5) ?_
  rintro _ w_6 ⟨N_7, rfl, hS'⟩
  clear hm a; intro a hm
  obtain ⟨N_8, hS'', le_8, ln_8⟩ := hS.call [0] (by decide) rfl (l' := [Mem.one g_2 (.cells ([p0_0] : List Value).toArray 23 (0, 0))]) (ow := []) rfl hS'
  replace hS : Sep w0 w_6 [N_8, Mem.one g_2 (.cells ([p0_0] : List Value).toArray 23 (0, 0)), Mem.one g_4 (.cells ([.int .i64 0, .int .i64 0, .int .i64 0, .int .i64 0, .int .i64 0, .int .i64 0, .bool false, .int .i64 0, .int .i64 0, .int .i64 0, .int .i64 0, .slice none 0 0, .int .i64 0, .int .i64 0, .slice none 0 0, .slice none 0 0, .int .i64 0, .int .i64 0, .int .i64 0, .int .i64 0, .int .i64 0, .slice none 0 0, .slice none 0 0, .slice none 0 0] : List Value).toArray 29 (0, 0))] Z := hS''
  clear hS' hS''
  refine s_bits (i := t_5) (j := 3) (r := band .i64 t_5 3) hm rfl rfl rfl (.inl ⟨rfl, rfl⟩) ?_
  clear hm a; intro a hm
  refine s_move hm rfl rfl ?_
  clear hm a; intro a hm
  obtain ⟨t_9, et_9, H⟩ := Option.bind_eq_some_iff.1 H
  refine s_callv hm rfl rfl Try.call65 rfl (hocketlaw17_Token_1.calls 0 _ x0 _ t_9 w0 _ _ _ (Mem.le.refl _) (hS.enter [0] (by decide)) (hp0_0.mono (hA.trans (hS.le_zed [0]))) et_9) ?_
  rintro _ w_10 ⟨N_11, rfl, hS'⟩
  clear hm a; intro a hm
  obtain ⟨N_12, hS'', le_12, ln_12⟩ := hS.call [0] (by decide) rfl (l' := [Mem.one g_2 (.cells ([p0_0] : List Value).toArray 23 (0, 0))]) (ow := []) rfl hS'
  replace hS : Sep w0 w_10 [N_12, Mem.one g_2 (.cells ([p0_0] : List Value).toArray 23 (0, 0)), Mem.one g_4 (.cells ([.int .i64 0, .int .i64 0, .int .i64 0, .int .i64 0, .int .i64 0, .int .i64 0, .bool false, .int .i64 0, .int .i64 0, .int .i64 0, .int .i64 0, .slice none 0 0, .int .i64 0, .int .i64 0, .slice none 0 0, .slice none 0 0, .int .i64 0, .int .i64 0, .int .i64 0, .int .i64 0, .int .i64 0, .slice none 0 0, .slice none 0 0, .slice none 0 0] : List Value).toArray 29 (0, 0))] Z := hS''
  clear hS' hS''
  refine s_shift (r := shr .i64 t_9 2) hm rfl rfl rfl (by decide) (.inr ⟨rfl, rfl⟩) ?_
  clear hm a; intro a hm
  refine s_bits (i := shr .i64 t_9 2) (j := 3) (r := band .i64 (shr .i64 t_9 2) 3) hm rfl rfl rfl (.inl ⟨rfl, rfl⟩) ?_
  clear hm a; intro a hm
  refine s_move hm rfl rfl ?_
  clear hm a; intro a hm
  obtain ⟨t_13, et_13, H⟩ := Option.bind_eq_some_iff.1 H
  refine s_callv hm rfl rfl Try.call65 rfl (hocketlaw17_Token_1.calls 0 _ x0 _ t_13 w0 _ _ _ (Mem.le.refl _) (hS.enter [0] (by decide)) (hp0_0.mono (hA.trans (hS.le_zed [0]))) et_13) ?_
  rintro _ w_14 ⟨N_15, rfl, hS'⟩
  clear hm a; intro a hm
  obtain ⟨N_16, hS'', le_16, ln_16⟩ := hS.call [0] (by decide) rfl (l' := [Mem.one g_2 (.cells ([p0_0] : List Value).toArray 23 (0, 0))]) (ow := []) rfl hS'
  replace hS : Sep w0 w_14 [N_16, Mem.one g_2 (.cells ([p0_0] : List Value).toArray 23 (0, 0)), Mem.one g_4 (.cells ([.int .i64 0, .int .i64 0, .int .i64 0, .int .i64 0, .int .i64 0, .int .i64 0, .bool false, .int .i64 0, .int .i64 0, .int .i64 0, .int .i64 0, .slice none 0 0, .int .i64 0, .int .i64 0, .slice none 0 0, .slice none 0 0, .int .i64 0, .int .i64 0, .int .i64 0, .int .i64 0, .int .i64 0, .slice none 0 0, .slice none 0 0, .slice none 0 0] : List Value).toArray 29 (0, 0))] Z := hS''
  clear hS' hS''
  refine s_shift (r := shr .i64 t_13 4) hm rfl rfl rfl (by decide) (.inr ⟨rfl, rfl⟩) ?_
  clear hm a; intro a hm
  refine s_bits (i := shr .i64 t_13 4) (j := 255) (r := band .i64 (shr .i64 t_13 4) 255) hm rfl rfl rfl (.inl ⟨rfl, rfl⟩) ?_
  clear hm a; intro a hm
  refine s_move hm rfl rfl ?_
  clear hm a; intro a hm
  obtain ⟨t_17, et_17, H⟩ := Option.bind_eq_some_iff.1 H
  refine s_callv hm rfl rfl Try.call65 rfl (hocketlaw17_Token_1.calls 1 _ x0 _ t_17 w0 _ _ _ (Mem.le.refl _) (hS.enter [0] (by decide)) (hp0_0.mono (hA.trans (hS.le_zed [0]))) et_17) ?_
  rintro _ w_18 ⟨N_19, rfl, hS'⟩
  clear hm a; intro a hm
  obtain ⟨N_20, hS'', le_20, ln_20⟩ := hS.call [0] (by decide) rfl (l' := [Mem.one g_2 (.cells ([p0_0] : List Value).toArray 23 (0, 0))]) (ow := []) rfl hS'
  replace hS : Sep w0 w_18 [N_20, Mem.one g_2 (.cells ([p0_0] : List Value).toArray 23 (0, 0)), Mem.one g_4 (.cells ([.int .i64 0, .int .i64 0, .int .i64 0, .int .i64 0, .int .i64 0, .int .i64 0, .bool false, .int .i64 0, .int .i64 0, .int .i64 0, .int .i64 0, .slice none 0 0, .int .i64 0, .int .i64 0, .slice none 0 0, .slice none 0 0, .int .i64 0, .int .i64 0, .int .i64 0, .int .i64 0, .int .i64 0, .slice none 0 0, .slice none 0 0, .slice none 0 0] : List Value).toArray 29 (0, 0))] Z := hS''
  clear hS' hS''
  refine s_bits (i := t_17) (j := 4095) (r := band .i64 t_17 4095) hm rfl rfl rfl (.inl ⟨rfl, rfl⟩) ?_
  clear hm a; intro a hm
  refine s_move hm rfl rfl ?_
  clear hm a; intro a hm
  obtain ⟨t_21, et_21, H⟩ := Option.bind_eq_some_iff.1 H
  refine s_callv hm rfl rfl Try.call65 rfl (hocketlaw17_Token_1.calls 1 _ x0 _ t_21 w0 _ _ _ (Mem.le.refl _) (hS.enter [0] (by decide)) (hp0_0.mono (hA.trans (hS.le_zed [0]))) et_21) ?_
  rintro _ w_22 ⟨N_23, rfl, hS'⟩
  clear hm a; intro a hm
  obtain ⟨N_24, hS'', le_24, ln_24⟩ := hS.call [0] (by decide) rfl (l' := [Mem.one g_2 (.cells ([p0_0] : List Value).toArray 23 (0, 0))]) (ow := []) rfl hS'
  replace hS : Sep w0 w_22 [N_24, Mem.one g_2 (.cells ([p0_0] : List Value).toArray 23 (0, 0)), Mem.one g_4 (.cells ([.int .i64 0, .int .i64 0, .int .i64 0, .int .i64 0, .int .i64 0, .int .i64 0, .bool false, .int .i64 0, .int .i64 0, .int .i64 0, .int .i64 0, .slice none 0 0, .int .i64 0, .int .i64 0, .slice none 0 0, .slice none 0 0, .int .i64 0, .int .i64 0, .int .i64 0, .int .i64 0, .int .i64 0, .slice none 0 0, .slice none 0 0, .slice none 0 0] : List Value).toArray 29 (0, 0))] Z := hS''
  clear hS' hS''
  refine s_shift (r := shr .i64 t_21 12) hm rfl rfl rfl (by decide) (.inr ⟨rfl, rfl⟩) ?_
  clear hm a; intro a hm
  refine s_bits (i := shr .i64 t_21 12) (j := 63) (r := band .i64 (shr .i64 t_21 12) 63) hm rfl rfl rfl (.inl ⟨rfl, rfl⟩) ?_
  clear hm a; intro a hm
  refine s_build hm rfl ti29 pl29 rfl (.cons rfl (.cons rfl (.cons rfl (.cons rfl (.cons rfl (.cons rfl .nil)))))) (cs := [.int .i64 7, .int .i64 (band .i64 t_5 3), .int .i64 (band .i64 (shr .i64 t_9 2) 3), .int .i64 (band .i64 (shr .i64 t_13 4) 255), .int .i64 0, .int .i64 0, .bool false, .int .i64 0, .int .i64 0, .int .i64 0, .int .i64 0, .slice none 0 0, .int .i64 (band .i64 t_17 4095), .int .i64 (band .i64 (shr .i64 t_21 12) 63), .slice none 0 0, .slice none 0 0, .int .i64 0, .int .i64 0, .int .i64 0, .int .i64 0, .int .i64 0, .slice none 0 0, .slice none 0 0, .slice none 0 0]) (by kernel_rfl) ?_
  clear hm a; intro a hm
  refine v_alloc hm rfl ti29 hS ?_
  intro w_25 g_26 hS'
  clear hm a; intro a hm
  replace hS : Sep w0 w_25 [N_24, Mem.one g_2 (.cells ([p0_0] : List Value).toArray 23 (0, 0)), Mem.one g_4 (.cells ([.int .i64 0, .int .i64 0, .int .i64 0, .int .i64 0, .int .i64 0, .int .i64 0, .bool false, .int .i64 0, .int .i64 0, .int .i64 0, .int .i64 0, .slice none 0 0, .int .i64 0, .int .i64 0, .slice none 0 0, .slice none 0 0, .int .i64 0, .int .i64 0, .int .i64 0, .int .i64 0, .int .i64 0, .slice none 0 0, .slice none 0 0, .slice none 0 0] : List Value).toArray 29 (0, 0)), Mem.one g_26 (.cells ([.int .i64 0, .int .i64 0, .int .i64 0, .int .i64 0, .int .i64 0, .int .i64 0, .bool false, .int .i64 0, .int .i64 0, .int .i64 0, .int .i64 0, .slice none 0 0, .int .i64 0, .int .i64 0, .slice none 0 0, .slice none 0 0, .int .i64 0, .int .i64 0, .int .i64 0, .int .i64 0, .int .i64 0, .slice none 0 0, .slice none 0 0, .slice none 0 0] : List Value).toArray 29 (0, 0))] Z := hS'
  clear hS'
  obtain ⟨w_27, hs', hS'⟩ := hS.store (P := Try.prog) (p := 3) (o := 0) (t := 29) (v := .agg ([.int .i64 7, .int .i64 (band .i64 t_5 3), .int .i64 (band .i64 (shr .i64 t_9 2) 3), .int .i64 (band .i64 (shr .i64 t_13 4) 255), .int .i64 0, .int .i64 0, .bool false, .int .i64 0, .int .i64 0, .int .i64 0, .int .i64 0, .slice none 0 0, .int .i64 (band .i64 t_17 4095), .int .i64 (band .i64 (shr .i64 t_21 12) 63), .slice none 0 0, .slice none 0 0, .int .i64 0, .int .i64 0, .int .i64 0, .int .i64 0, .int .i64 0, .slice none 0 0, .slice none 0 0, .slice none 0 0] : List Value).toArray) (vs := [.int .i64 7, .int .i64 (band .i64 t_5 3), .int .i64 (band .i64 (shr .i64 t_9 2) 3), .int .i64 (band .i64 (shr .i64 t_13 4) 255), .int .i64 0, .int .i64 0, .bool false, .int .i64 0, .int .i64 0, .int .i64 0, .int .i64 0, .slice none 0 0, .int .i64 (band .i64 t_17 4095), .int .i64 (band .i64 (shr .i64 t_21 12) 63), .slice none 0 0, .slice none 0 0, .int .i64 0, .int .i64 0, .int .i64 0, .int .i64 0, .int .i64 0, .slice none 0 0, .slice none 0 0, .slice none 0 0]) rfl ti29 rfl rfl rfl (by intro u hu; simp only [List.mem_cons, List.not_mem_nil, or_false] at hu; rcases hu with rfl | rfl | rfl | rfl | rfl | rfl | rfl | rfl | rfl | rfl | rfl | rfl | rfl | rfl | rfl | rfl | rfl | rfl | rfl | rfl | rfl | rfl | rfl | rfl <;> rfl)
  refine s_store hm rfl rfl hs' ?_
  replace hS : Sep w0 w_27 [N_24, Mem.one g_2 (.cells ([p0_0] : List Value).toArray 23 (0, 0)), Mem.one g_4 (.cells ([.int .i64 0, .int .i64 0, .int .i64 0, .int .i64 0, .int .i64 0, .int .i64 0, .bool false, .int .i64 0, .int .i64 0, .int .i64 0, .int .i64 0, .slice none 0 0, .int .i64 0, .int .i64 0, .slice none 0 0, .slice none 0 0, .int .i64 0, .int .i64 0, .int .i64 0, .int .i64 0, .int .i64 0, .slice none 0 0, .slice none 0 0, .slice none 0 0] : List Value).toArray 29 (0, 0)), Mem.one g_26 (.cells ([.int .i64 7, .int .i64 (band .i64 t_5 3), .int .i64 (band .i64 (shr .i64 t_9 2) 3), .int .i64 (band .i64 (shr .i64 t_13 4) 255), .int .i64 0, .int .i64 0, .bool false, .int .i64 0, .int .i64 0, .int .i64 0, .int .i64 0, .slice none 0 0, .int .i64 (band .i64 t_17 4095), .int .i64 (band .i64 (shr .i64 t_21 12) 63), .slice none 0 0, .slice none 0 0, .int .i64 0, .int .i64 0, .int .i64 0, .int .i64 0, .int .i64 0, .slice none 0 0, .slice none 0 0, .slice none 0 0] : List Value).toArray 29 (0, 0))] Z := hS'
  clear hs' hS'
  refine wpList_nil ?_
  replace hm : Fr 72 a [(2, .pointer (some ⟨g_4, 0, none⟩)), (3, .func (.func 65) #[] [.pointer (some ⟨g_2, 0, none⟩)].toArray), (4, .pointer (some ⟨g_26, 0, none⟩))] := hm.keep [2, 3, 4]
  refine x_then_n ?_
  refine c_seq fun KJ_28 hKJ_28 => ?_
  refine wp_seq ?_
  refine wp_region_lit ?_
  refine s_assign hm rfl rfl ?_
  clear hm a; intro a hm
  refine wpList_nil ?_
  replace hm : Fr 72 a [(2, .pointer (some ⟨g_4, 0, none⟩)), (3, .func (.func 65) #[] [.pointer (some ⟨g_2, 0, none⟩)].toArray), (4, .pointer (some ⟨g_26, 0, none⟩)), (5, .int .i64 0)] := hm.keep [2, 3, 4, 5]
  refine x_then_n ?_
  have hJ_j_36 : ∀ (x_30 : List Int), hocketlaw17_Token.J1 K x0 t_21 t_5 t_9 t_13 t_17 x_30 = some r → ∀ (a : Act) (w_35 : World), (∃ (v_33 : Value) (N_29 : Mem) (M_31 : Mem), Fr 72 a [(2, .pointer (some ⟨g_4, 0, none⟩)), (3, .func (.func 65) #[] [.pointer (some ⟨g_2, 0, none⟩)].toArray), (4, .pointer (some ⟨g_26, 0, none⟩))] ∧ Sep w0 w_35 [N_29, Mem.one g_2 (.cells ([p0_0] : List Value).toArray 23 (0, 0)), Mem.one g_4 (.cells ([.int .i64 0, .int .i64 0, .int .i64 0, .int .i64 0, .int .i64 0, .int .i64 0, .bool false, .int .i64 0, .int .i64 0, .int .i64 0, .int .i64 0, .slice none 0 0, .int .i64 0, .int .i64 0, .slice none 0 0, .slice none 0 0, .int .i64 0, .int .i64 0, .int .i64 0, .int .i64 0, .int .i64 0, .slice none 0 0, .slice none 0 0, .slice none 0 0] : List Value).toArray 29 (0, 0)), Mem.one g_26 (.cells ([.int .i64 7, .int .i64 (band .i64 t_5 3), .int .i64 (band .i64 (shr .i64 t_9 2) 3), .int .i64 (band .i64 (shr .i64 t_13 4) 255), .int .i64 0, .int .i64 0, .bool false, .int .i64 0, .int .i64 0, .int .i64 0, .int .i64 0, .slice none 0 0, .int .i64 (band .i64 t_17 4095), .int .i64 (band .i64 (shr .i64 t_21 12) 63), v_33, .slice none 0 0, .int .i64 0, .int .i64 0, .int .i64 0, .int .i64 0, .int .i64 0, .slice none 0 0, .slice none 0 0, .slice none 0 0] : List Value).toArray 29 (0, 0)), M_31] Z ∧ N_24.le N_29 ∧ Own (Kd.int .i64) 3 M_31 Mem.no v_33 x_30) → KJ_28 a w_35 := by
    clear H hm hS a
    rintro x_30 H a w_35 ⟨v_33, N_29, M_31, hm, hS, le_29, ho_34⟩
    unfold hocketlaw17_Token.J1 at H
    refine hKJ_28 _ _ ?_
    refine c_seq fun KJ_37 hKJ_37 => ?_
    refine wp_seq ?_
    refine wp_region_lit ?_
    refine s_assign hm rfl rfl ?_
    clear hm a; intro a hm
    refine wpList_nil ?_
    replace hm : Fr 72 a [(2, .pointer (some ⟨g_4, 0, none⟩)), (3, .func (.func 65) #[] [.pointer (some ⟨g_2, 0, none⟩)].toArray), (4, .pointer (some ⟨g_26, 0, none⟩)), (6, .int .i64 0)] := hm.keep [2, 3, 4, 6]
    refine x_then_n ?_
    have hJ_j_45 : ∀ (x_39 : List Int), hocketlaw17_Token.J2 K t_5 t_9 t_13 t_17 t_21 x_30 x_39 = some r → ∀ (a : Act) (w_44 : World), (∃ (v_42 : Value) (N_38 : Mem) (M_40 : Mem), Fr 72 a [(2, .pointer (some ⟨g_4, 0, none⟩)), (4, .pointer (some ⟨g_26, 0, none⟩))] ∧ Sep w0 w_44 [N_38, Mem.no, Mem.one g_4 (.cells ([.int .i64 0, .int .i64 0, .int .i64 0, .int .i64 0, .int .i64 0, .int .i64 0, .bool false, .int .i64 0, .int .i64 0, .int .i64 0, .int .i64 0, .slice none 0 0, .int .i64 0, .int .i64 0, .slice none 0 0, .slice none 0 0, .int .i64 0, .int .i64 0, .int .i64 0, .int .i64 0, .int .i64 0, .slice none 0 0, .slice none 0 0, .slice none 0 0] : List Value).toArray 29 (0, 0)), Mem.one g_26 (.cells ([.int .i64 7, .int .i64 (band .i64 t_5 3), .int .i64 (band .i64 (shr .i64 t_9 2) 3), .int .i64 (band .i64 (shr .i64 t_13 4) 255), .int .i64 0, .int .i64 0, .bool false, .int .i64 0, .int .i64 0, .int .i64 0, .int .i64 0, .slice none 0 0, .int .i64 (band .i64 t_17 4095), .int .i64 (band .i64 (shr .i64 t_21 12) 63), v_33, v_42, .int .i64 0, .int .i64 0, .int .i64 0, .int .i64 0, .int .i64 0, .slice none 0 0, .slice none 0 0, .slice none 0 0] : List Value).toArray 29 (0, 0)), M_31, M_40] Z ∧ N_29.le N_38 ∧ Own (Kd.int .i64) 3 M_40 Mem.no v_42 x_39) → KJ_37 a w_44 := by
      clear H hm hS a
      rintro x_39 H a w_44 ⟨v_42, N_38, M_40, hm, hS, le_38, ho_43⟩
      unfold hocketlaw17_Token.J2 at H
      refine hKJ_37 _ _ ?_
      refine wp_seq ?_
      refine wp_region_lit ?_
      refine s_load hm rfl rfl (hS.load_agg (p := 3) (us := [.int .i64 7, .int .i64 (band .i64 t_5 3), .int .i64 (band .i64 (shr .i64 t_9 2) 3), .int .i64 (band .i64 (shr .i64 t_13 4) 255), .int .i64 0, .int .i64 0, .bool false, .int .i64 0, .int .i64 0, .int .i64 0, .int .i64 0, .slice none 0 0, .int .i64 (band .i64 t_17 4095), .int .i64 (band .i64 (shr .i64 t_21 12) 63), v_33, v_42, .int .i64 0, .int .i64 0, .int .i64 0, .int .i64 0, .int .i64 0, .slice none 0 0, .slice none 0 0, .slice none 0 0]) rfl Try.underlying29 rfl ti29 rfl rfl) ?_
      clear hm a; intro a hm
      obtain ⟨w_46, hs', hS'⟩ := hS.store (P := Try.prog) (p := 2) (o := 0) (t := 29) (v := .agg ([.int .i64 7, .int .i64 (band .i64 t_5 3), .int .i64 (band .i64 (shr .i64 t_9 2) 3), .int .i64 (band .i64 (shr .i64 t_13 4) 255), .int .i64 0, .int .i64 0, .bool false, .int .i64 0, .int .i64 0, .int .i64 0, .int .i64 0, .slice none 0 0, .int .i64 (band .i64 t_17 4095), .int .i64 (band .i64 (shr .i64 t_21 12) 63), v_33, v_42, .int .i64 0, .int .i64 0, .int .i64 0, .int .i64 0, .int .i64 0, .slice none 0 0, .slice none 0 0, .slice none 0 0] : List Value).toArray) (vs := [.int .i64 7, .int .i64 (band .i64 t_5 3), .int .i64 (band .i64 (shr .i64 t_9 2) 3), .int .i64 (band .i64 (shr .i64 t_13 4) 255), .int .i64 0, .int .i64 0, .bool false, .int .i64 0, .int .i64 0, .int .i64 0, .int .i64 0, .slice none 0 0, .int .i64 (band .i64 t_17 4095), .int .i64 (band .i64 (shr .i64 t_21 12) 63), v_33, v_42, .int .i64 0, .int .i64 0, .int .i64 0, .int .i64 0, .int .i64 0, .slice none 0 0, .slice none 0 0, .slice none 0 0]) rfl ti29 rfl rfl rfl (by intro u hu; simp only [List.mem_cons, List.not_mem_nil, or_false] at hu; rcases hu with rfl | rfl | rfl | rfl | rfl | rfl | rfl | rfl | rfl | rfl | rfl | rfl | rfl | rfl | rfl | rfl | rfl | rfl | rfl | rfl | rfl | rfl | rfl | rfl <;> first | rfl | exact ho_34.one | exact ho_43.one)
      refine s_store hm rfl rfl hs' ?_
      replace hS : Sep w0 w_46 [N_38, Mem.no, Mem.one g_4 (.cells ([.int .i64 7, .int .i64 (band .i64 t_5 3), .int .i64 (band .i64 (shr .i64 t_9 2) 3), .int .i64 (band .i64 (shr .i64 t_13 4) 255), .int .i64 0, .int .i64 0, .bool false, .int .i64 0, .int .i64 0, .int .i64 0, .int .i64 0, .slice none 0 0, .int .i64 (band .i64 t_17 4095), .int .i64 (band .i64 (shr .i64 t_21 12) 63), v_33, v_42, .int .i64 0, .int .i64 0, .int .i64 0, .int .i64 0, .int .i64 0, .slice none 0 0, .slice none 0 0, .slice none 0 0] : List Value).toArray 29 (0, 0)), Mem.one g_26 (.cells ([.int .i64 7, .int .i64 (band .i64 t_5 3), .int .i64 (band .i64 (shr .i64 t_9 2) 3), .int .i64 (band .i64 (shr .i64 t_13 4) 255), .int .i64 0, .int .i64 0, .bool false, .int .i64 0, .int .i64 0, .int .i64 0, .int .i64 0, .slice none 0 0, .int .i64 (band .i64 t_17 4095), .int .i64 (band .i64 (shr .i64 t_21 12) 63), v_33, v_42, .int .i64 0, .int .i64 0, .int .i64 0, .int .i64 0, .int .i64 0, .slice none 0 0, .slice none 0 0, .slice none 0 0] : List Value).toArray 29 (0, 0)), M_31, M_40] Z := hS'
      clear hs' hS'
      refine wpList_nil ?_
      replace hm : Fr 72 a [(2, .pointer (some ⟨g_4, 0, none⟩))] := hm.keep [2]
      refine x_then_n ?_
      refine wp_ret ?_
      have hS' := hS.room
      replace hS : Sep w0 w_46 [N_38, Mem.no, Mem.one g_4 (.cells ([.int .i64 7, .int .i64 (band .i64 t_5 3), .int .i64 (band .i64 (shr .i64 t_9 2) 3), .int .i64 (band .i64 (shr .i64 t_13 4) 255), .int .i64 0, .int .i64 0, .bool false, .int .i64 0, .int .i64 0, .int .i64 0, .int .i64 0, .slice none 0 0, .int .i64 (band .i64 t_17 4095), .int .i64 (band .i64 (shr .i64 t_21 12) 63), v_33, v_42, .int .i64 0, .int .i64 0, .int .i64 0, .int .i64 0, .int .i64 0, .slice none 0 0, .slice none 0 0, .slice none 0 0] : List Value).toArray 29 (0, 0)), Mem.one g_26 (.cells ([.int .i64 7, .int .i64 (band .i64 t_5 3), .int .i64 (band .i64 (shr .i64 t_9 2) 3), .int .i64 (band .i64 (shr .i64 t_13 4) 255), .int .i64 0, .int .i64 0, .bool false, .int .i64 0, .int .i64 0, .int .i64 0, .int .i64 0, .slice none 0 0, .int .i64 (band .i64 t_17 4095), .int .i64 (band .i64 (shr .i64 t_21 12) 63), v_33, v_42, .int .i64 0, .int .i64 0, .int .i64 0, .int .i64 0, .int .i64 0, .slice none 0 0, .slice none 0 0, .slice none 0 0] : List Value).toArray 29 (0, 0)), M_31, M_40, Mem.no] Z := hS'
      clear hS'
      replace hS : Sep w0 w_46 [N_38, Mem.no, Mem.one g_4 (.cells ([.int .i64 7, .int .i64 (band .i64 t_5 3), .int .i64 (band .i64 (shr .i64 t_9 2) 3), .int .i64 (band .i64 (shr .i64 t_13 4) 255), .int .i64 0, .int .i64 0, .bool false, .int .i64 0, .int .i64 0, .int .i64 0, .int .i64 0, .slice none 0 0, .int .i64 (band .i64 t_17 4095), .int .i64 (band .i64 (shr .i64 t_21 12) 63), v_33, v_42, .int .i64 0, .int .i64 0, .int .i64 0, .int .i64 0, .int .i64 0, .slice none 0 0, .slice none 0 0, .slice none 0 0] : List Value).toArray 29 (0, 0)), Mem.one g_26 (.cells ([.int .i64 7, .int .i64 (band .i64 t_5 3), .int .i64 (band .i64 (shr .i64 t_9 2) 3), .int .i64 (band .i64 (shr .i64 t_13 4) 255), .int .i64 0, .int .i64 0, .bool false, .int .i64 0, .int .i64 0, .int .i64 0, .int .i64 0, .slice none 0 0, .int .i64 (band .i64 t_17 4095), .int .i64 (band .i64 (shr .i64 t_21 12) 63), v_33, v_42, .int .i64 0, .int .i64 0, .int .i64 0, .int .i64 0, .int .i64 0, .slice none 0 0, .slice none 0 0, .slice none 0 0] : List Value).toArray 29 (0, 0)), M_31, M_40, Mem.no] Z := hS
      have hS' := hS.room
      replace hS : Sep w0 w_46 [N_38, Mem.no, Mem.one g_4 (.cells ([.int .i64 7, .int .i64 (band .i64 t_5 3), .int .i64 (band .i64 (shr .i64 t_9 2) 3), .int .i64 (band .i64 (shr .i64 t_13 4) 255), .int .i64 0, .int .i64 0, .bool false, .int .i64 0, .int .i64 0, .int .i64 0, .int .i64 0, .slice none 0 0, .int .i64 (band .i64 t_17 4095), .int .i64 (band .i64 (shr .i64 t_21 12) 63), v_33, v_42, .int .i64 0, .int .i64 0, .int .i64 0, .int .i64 0, .int .i64 0, .slice none 0 0, .slice none 0 0, .slice none 0 0] : List Value).toArray 29 (0, 0)), Mem.one g_26 (.cells ([.int .i64 7, .int .i64 (band .i64 t_5 3), .int .i64 (band .i64 (shr .i64 t_9 2) 3), .int .i64 (band .i64 (shr .i64 t_13 4) 255), .int .i64 0, .int .i64 0, .bool false, .int .i64 0, .int .i64 0, .int .i64 0, .int .i64 0, .slice none 0 0, .int .i64 (band .i64 t_17 4095), .int .i64 (band .i64 (shr .i64 t_21 12) 63), v_33, v_42, .int .i64 0, .int .i64 0, .int .i64 0, .int .i64 0, .int .i64 0, .slice none 0 0, .slice none 0 0, .slice none 0 0] : List Value).toArray 29 (0, 0)), M_31, M_40, Mem.no, Mem.no] Z := hS'
      clear hS'
      replace hS : Sep w0 w_46 [N_38, Mem.no, Mem.one g_4 (.cells ([.int .i64 7, .int .i64 (band .i64 t_5 3), .int .i64 (band .i64 (shr .i64 t_9 2) 3), .int .i64 (band .i64 (shr .i64 t_13 4) 255), .int .i64 0, .int .i64 0, .bool false, .int .i64 0, .int .i64 0, .int .i64 0, .int .i64 0, .slice none 0 0, .int .i64 (band .i64 t_17 4095), .int .i64 (band .i64 (shr .i64 t_21 12) 63), v_33, v_42, .int .i64 0, .int .i64 0, .int .i64 0, .int .i64 0, .int .i64 0, .slice none 0 0, .slice none 0 0, .slice none 0 0] : List Value).toArray 29 (0, 0)), Mem.one g_26 (.cells ([.int .i64 7, .int .i64 (band .i64 t_5 3), .int .i64 (band .i64 (shr .i64 t_9 2) 3), .int .i64 (band .i64 (shr .i64 t_13 4) 255), .int .i64 0, .int .i64 0, .bool false, .int .i64 0, .int .i64 0, .int .i64 0, .int .i64 0, .slice none 0 0, .int .i64 (band .i64 t_17 4095), .int .i64 (band .i64 (shr .i64 t_21 12) 63), v_33, v_42, .int .i64 0, .int .i64 0, .int .i64 0, .int .i64 0, .int .i64 0, .slice none 0 0, .slice none 0 0, .slice none 0 0] : List Value).toArray 29 (0, 0)), M_31, M_40, Mem.no, Mem.no] Z := hS
      have hS' := hS.room
      replace hS : Sep w0 w_46 [N_38, Mem.no, Mem.one g_4 (.cells ([.int .i64 7, .int .i64 (band .i64 t_5 3), .int .i64 (band .i64 (shr .i64 t_9 2) 3), .int .i64 (band .i64 (shr .i64 t_13 4) 255), .int .i64 0, .int .i64 0, .bool false, .int .i64 0, .int .i64 0, .int .i64 0, .int .i64 0, .slice none 0 0, .int .i64 (band .i64 t_17 4095), .int .i64 (band .i64 (shr .i64 t_21 12) 63), v_33, v_42, .int .i64 0, .int .i64 0, .int .i64 0, .int .i64 0, .int .i64 0, .slice none 0 0, .slice none 0 0, .slice none 0 0] : List Value).toArray 29 (0, 0)), Mem.one g_26 (.cells ([.int .i64 7, .int .i64 (band .i64 t_5 3), .int .i64 (band .i64 (shr .i64 t_9 2) 3), .int .i64 (band .i64 (shr .i64 t_13 4) 255), .int .i64 0, .int .i64 0, .bool false, .int .i64 0, .int .i64 0, .int .i64 0, .int .i64 0, .slice none 0 0, .int .i64 (band .i64 t_17 4095), .int .i64 (band .i64 (shr .i64 t_21 12) 63), v_33, v_42, .int .i64 0, .int .i64 0, .int .i64 0, .int .i64 0, .int .i64 0, .slice none 0 0, .slice none 0 0, .slice none 0 0] : List Value).toArray 29 (0, 0)), M_31, M_40, Mem.no, Mem.no, Mem.no] Z := hS'
      clear hS'
      replace hS : Sep w0 w_46 [N_38, Mem.no, Mem.one g_4 (.cells ([.int .i64 7, .int .i64 (band .i64 t_5 3), .int .i64 (band .i64 (shr .i64 t_9 2) 3), .int .i64 (band .i64 (shr .i64 t_13 4) 255), .int .i64 0, .int .i64 0, .bool false, .int .i64 0, .int .i64 0, .int .i64 0, .int .i64 0, .slice none 0 0, .int .i64 (band .i64 t_17 4095), .int .i64 (band .i64 (shr .i64 t_21 12) 63), v_33, v_42, .int .i64 0, .int .i64 0, .int .i64 0, .int .i64 0, .int .i64 0, .slice none 0 0, .slice none 0 0, .slice none 0 0] : List Value).toArray 29 (0, 0)), Mem.one g_26 (.cells ([.int .i64 7, .int .i64 (band .i64 t_5 3), .int .i64 (band .i64 (shr .i64 t_9 2) 3), .int .i64 (band .i64 (shr .i64 t_13 4) 255), .int .i64 0, .int .i64 0, .bool false, .int .i64 0, .int .i64 0, .int .i64 0, .int .i64 0, .slice none 0 0, .int .i64 (band .i64 t_17 4095), .int .i64 (band .i64 (shr .i64 t_21 12) 63), v_33, v_42, .int .i64 0, .int .i64 0, .int .i64 0, .int .i64 0, .int .i64 0, .slice none 0 0, .slice none 0 0, .slice none 0 0] : List Value).toArray 29 (0, 0)), M_31, M_40, Mem.no, Mem.no, Mem.no] Z := hS
      have hS' := hS.room
      replace hS : Sep w0 w_46 [N_38, Mem.no, Mem.one g_4 (.cells ([.int .i64 7, .int .i64 (band .i64 t_5 3), .int .i64 (band .i64 (shr .i64 t_9 2) 3), .int .i64 (band .i64 (shr .i64 t_13 4) 255), .int .i64 0, .int .i64 0, .bool false, .int .i64 0, .int .i64 0, .int .i64 0, .int .i64 0, .slice none 0 0, .int .i64 (band .i64 t_17 4095), .int .i64 (band .i64 (shr .i64 t_21 12) 63), v_33, v_42, .int .i64 0, .int .i64 0, .int .i64 0, .int .i64 0, .int .i64 0, .slice none 0 0, .slice none 0 0, .slice none 0 0] : List Value).toArray 29 (0, 0)), Mem.one g_26 (.cells ([.int .i64 7, .int .i64 (band .i64 t_5 3), .int .i64 (band .i64 (shr .i64 t_9 2) 3), .int .i64 (band .i64 (shr .i64 t_13 4) 255), .int .i64 0, .int .i64 0, .bool false, .int .i64 0, .int .i64 0, .int .i64 0, .int .i64 0, .slice none 0 0, .int .i64 (band .i64 t_17 4095), .int .i64 (band .i64 (shr .i64 t_21 12) 63), v_33, v_42, .int .i64 0, .int .i64 0, .int .i64 0, .int .i64 0, .int .i64 0, .slice none 0 0, .slice none 0 0, .slice none 0 0] : List Value).toArray 29 (0, 0)), M_31, M_40, Mem.no, Mem.no, Mem.no, Mem.no] Z := hS'
      clear hS'
      replace hS : Sep w0 w_46 [N_38, Mem.no, Mem.one g_4 (.cells ([.int .i64 7, .int .i64 (band .i64 t_5 3), .int .i64 (band .i64 (shr .i64 t_9 2) 3), .int .i64 (band .i64 (shr .i64 t_13 4) 255), .int .i64 0, .int .i64 0, .bool false, .int .i64 0, .int .i64 0, .int .i64 0, .int .i64 0, .slice none 0 0, .int .i64 (band .i64 t_17 4095), .int .i64 (band .i64 (shr .i64 t_21 12) 63), v_33, v_42, .int .i64 0, .int .i64 0, .int .i64 0, .int .i64 0, .int .i64 0, .slice none 0 0, .slice none 0 0, .slice none 0 0] : List Value).toArray 29 (0, 0)), Mem.one g_26 (.cells ([.int .i64 7, .int .i64 (band .i64 t_5 3), .int .i64 (band .i64 (shr .i64 t_9 2) 3), .int .i64 (band .i64 (shr .i64 t_13 4) 255), .int .i64 0, .int .i64 0, .bool false, .int .i64 0, .int .i64 0, .int .i64 0, .int .i64 0, .slice none 0 0, .int .i64 (band .i64 t_17 4095), .int .i64 (band .i64 (shr .i64 t_21 12) 63), v_33, v_42, .int .i64 0, .int .i64 0, .int .i64 0, .int .i64 0, .int .i64 0, .slice none 0 0, .slice none 0 0, .slice none 0 0] : List Value).toArray 29 (0, 0)), M_31, M_40, Mem.no, Mem.no, Mem.no, Mem.no] Z := hS
      obtain rfl := Option.some.inj H
      exact f_ret hm (rs := [.cell 2 29]) rfl (.cell rfl (hS.load_agg (p := 2) (us := [.int .i64 7, .int .i64 (band .i64 t_5 3), .int .i64 (band .i64 (shr .i64 t_9 2) 3), .int .i64 (band .i64 (shr .i64 t_13 4) 255), .int .i64 0, .int .i64 0, .bool false, .int .i64 0, .int .i64 0, .int .i64 0, .int .i64 0, .slice none 0 0, .int .i64 (band .i64 t_17 4095), .int .i64 (band .i64 (shr .i64 t_21 12) 63), v_33, v_42, .int .i64 0, .int .i64 0, .int .i64 0, .int .i64 0, .int .i64 0, .slice none 0 0, .slice none 0 0, .slice none 0 0]) rfl Try.underlying29 rfl ti29 rfl rfl) .nil) ⟨_, rfl, .slice none 0 0, v_33, v_42, .slice none 0 0, .slice none 0 0, .slice none 0 0, N_38, Mem.no, M_31, M_40, Mem.no, Mem.no, Mem.no, rfl, (Sep.sel hS [0, 6, 4, 5, 7, 8, 9] (by decide)), (Own.nil Kd.u8 5 Mem.no), ho_34, ho_43, (Own.nil Kd.u8 5 Mem.no), (Own.nil Kd.u8 5 Mem.no), (Own.nil Kd.u8 5 Mem.no)⟩
    clear hKJ_37
    have hS' := hS.room
    replace hS : Sep w0 w_35 [N_29, Mem.one g_2 (.cells ([p0_0] : List Value).toArray 23 (0, 0)), Mem.one g_4 (.cells ([.int .i64 0, .int .i64 0, .int .i64 0, .int .i64 0, .int .i64 0, .int .i64 0, .bool false, .int .i64 0, .int .i64 0, .int .i64 0, .int .i64 0, .slice none 0 0, .int .i64 0, .int .i64 0, .slice none 0 0, .slice none 0 0, .int .i64 0, .int .i64 0, .int .i64 0, .int .i64 0, .int .i64 0, .slice none 0 0, .slice none 0 0, .slice none 0 0] : List Value).toArray 29 (0, 0)), Mem.one g_26 (.cells ([.int .i64 7, .int .i64 (band .i64 t_5 3), .int .i64 (band .i64 (shr .i64 t_9 2) 3), .int .i64 (band .i64 (shr .i64 t_13 4) 255), .int .i64 0, .int .i64 0, .bool false, .int .i64 0, .int .i64 0, .int .i64 0, .int .i64 0, .slice none 0 0, .int .i64 (band .i64 t_17 4095), .int .i64 (band .i64 (shr .i64 t_21 12) 63), v_33, .slice none 0 0, .int .i64 0, .int .i64 0, .int .i64 0, .int .i64 0, .int .i64 0, .slice none 0 0, .slice none 0 0, .slice none 0 0] : List Value).toArray 29 (0, 0)), M_31, Mem.no] Z := hS'
    clear hS'
    replace hS : Sep w0 w_35 [N_29, Mem.one g_2 (.cells ([p0_0] : List Value).toArray 23 (0, 0)), Mem.one g_4 (.cells ([.int .i64 0, .int .i64 0, .int .i64 0, .int .i64 0, .int .i64 0, .int .i64 0, .bool false, .int .i64 0, .int .i64 0, .int .i64 0, .int .i64 0, .slice none 0 0, .int .i64 0, .int .i64 0, .slice none 0 0, .slice none 0 0, .int .i64 0, .int .i64 0, .int .i64 0, .int .i64 0, .int .i64 0, .slice none 0 0, .slice none 0 0, .slice none 0 0] : List Value).toArray 29 (0, 0)), Mem.one g_26 (.cells ([.int .i64 7, .int .i64 (band .i64 t_5 3), .int .i64 (band .i64 (shr .i64 t_9 2) 3), .int .i64 (band .i64 (shr .i64 t_13 4) 255), .int .i64 0, .int .i64 0, .bool false, .int .i64 0, .int .i64 0, .int .i64 0, .int .i64 0, .slice none 0 0, .int .i64 (band .i64 t_17 4095), .int .i64 (band .i64 (shr .i64 t_21 12) 63), v_33, .slice none 0 0, .int .i64 0, .int .i64 0, .int .i64 0, .int .i64 0, .int .i64 0, .slice none 0 0, .slice none 0 0, .slice none 0 0] : List Value).toArray 29 (0, 0)), M_31, Mem.no] Z := hS
    replace hm : Fr 72 a [(2, .pointer (some ⟨g_4, 0, none⟩)), (3, .func (.func 65) #[] [.pointer (some ⟨g_2, 0, none⟩)].toArray), (4, .pointer (some ⟨g_26, 0, none⟩)), (6, .int .i64 0)] := hm.keep [2, 3, 4, 6]
    refine c_block ?_
    refine c_loop (fun k_58 a w_58 => ∃ (x_52 : Int) (x_53 : List Int) (v_56 : Value) (N_51 : Mem) (M_54 : Mem), hocketlaw17_Token.L1 K x0 t_21 (fun v => hocketlaw17_Token.J2 K t_5 t_9 t_13 t_17 t_21 x_30 v) k_58 (x_52, x_53) = some r ∧ Fr 72 a [(2, .pointer (some ⟨g_4, 0, none⟩)), (3, .func (.func 65) #[] [.pointer (some ⟨g_2, 0, none⟩)].toArray), (4, .pointer (some ⟨g_26, 0, none⟩)), (6, .int .i64 x_52)] ∧ Sep w0 w_58 [N_51, Mem.one g_2 (.cells ([p0_0] : List Value).toArray 23 (0, 0)), Mem.one g_4 (.cells ([.int .i64 0, .int .i64 0, .int .i64 0, .int .i64 0, .int .i64 0, .int .i64 0, .bool false, .int .i64 0, .int .i64 0, .int .i64 0, .int .i64 0, .slice none 0 0, .int .i64 0, .int .i64 0, .slice none 0 0, .slice none 0 0, .int .i64 0, .int .i64 0, .int .i64 0, .int .i64 0, .int .i64 0, .slice none 0 0, .slice none 0 0, .slice none 0 0] : List Value).toArray 29 (0, 0)), Mem.one g_26 (.cells ([.int .i64 7, .int .i64 (band .i64 t_5 3), .int .i64 (band .i64 (shr .i64 t_9 2) 3), .int .i64 (band .i64 (shr .i64 t_13 4) 255), .int .i64 0, .int .i64 0, .bool false, .int .i64 0, .int .i64 0, .int .i64 0, .int .i64 0, .slice none 0 0, .int .i64 (band .i64 t_17 4095), .int .i64 (band .i64 (shr .i64 t_21 12) 63), v_33, v_56, .int .i64 0, .int .i64 0, .int .i64 0, .int .i64 0, .int .i64 0, .slice none 0 0, .slice none 0 0, .slice none 0 0] : List Value).toArray 29 (0, 0)), M_31, M_54] Z ∧ N_29.le N_51 ∧ Own (Kd.int .i64) 3 M_54 Mem.no v_56 x_53) K ⟨0, ([] : List Int), .slice none 0 0, N_29, Mem.no, H, hm, (Sep.sel hS [0, 1, 2, 3, 4, 5] (by decide)), (Mem.le.refl _), (Own.nil (Kd.int .i64) 3 Mem.no)⟩ (fun a w h => by obtain ⟨_, _, _, _, _, H, _⟩ := h; cases (show (none : Option (api_Msg)) = some r from H)) ?_
    clear hm hS a H
    rintro k_58 a w_58 KL_58 hKL_58 ⟨x_52, x_53, v_56, N_51, M_54, H, hm, hS, le_51, ho_57⟩
    replace H : hocketlaw17_Token.B1 K x0 t_21 (fun v => hocketlaw17_Token.J2 K t_5 t_9 t_13 t_17 t_21 x_30 v) (hocketlaw17_Token.L1 K x0 t_21 (fun v => hocketlaw17_Token.J2 K t_5 t_9 t_13 t_17 t_21 x_30 v) k_58) x_52 x_53 = some r := H
    unfold hocketlaw17_Token.B1 at H
    refine c_seq fun KJ_61 hKJ_61 => ?_
    refine wp_seq ?_
    refine wp_region_lit ?_
    refine s_move hm rfl rfl ?_
    clear hm a; intro a hm
    refine s_move hm rfl rfl ?_
    clear hm a; intro a hm
    obtain ⟨t_62, et_62, H⟩ := Option.bind_eq_some_iff.1 H
    refine s_callv hm rfl rfl Try.call65 rfl (hocketlaw17_Token_1.calls 2 _ x0 _ t_62 w0 _ _ _ (Mem.le.refl _) (hS.enter [0] (by decide)) (hp0_0.mono (hA.trans (hS.le_zed [0]))) et_62) ?_
    rintro _ w_63 ⟨N_64, rfl, hS'⟩
    clear hm a; intro a hm
    obtain ⟨N_65, hS'', le_65, ln_65⟩ := hS.call [0] (by decide) rfl (l' := [Mem.one g_2 (.cells ([p0_0] : List Value).toArray 23 (0, 0))]) (ow := []) rfl hS'
    replace hS : Sep w0 w_63 [N_65, Mem.one g_2 (.cells ([p0_0] : List Value).toArray 23 (0, 0)), Mem.one g_4 (.cells ([.int .i64 0, .int .i64 0, .int .i64 0, .int .i64 0, .int .i64 0, .int .i64 0, .bool false, .int .i64 0, .int .i64 0, .int .i64 0, .int .i64 0, .slice none 0 0, .int .i64 0, .int .i64 0, .slice none 0 0, .slice none 0 0, .int .i64 0, .int .i64 0, .int .i64 0, .int .i64 0, .int .i64 0, .slice none 0 0, .slice none 0 0, .slice none 0 0] : List Value).toArray 29 (0, 0)), Mem.one g_26 (.cells ([.int .i64 7, .int .i64 (band .i64 t_5 3), .int .i64 (band .i64 (shr .i64 t_9 2) 3), .int .i64 (band .i64 (shr .i64 t_13 4) 255), .int .i64 0, .int .i64 0, .bool false, .int .i64 0, .int .i64 0, .int .i64 0, .int .i64 0, .slice none 0 0, .int .i64 (band .i64 t_17 4095), .int .i64 (band .i64 (shr .i64 t_21 12) 63), v_33, v_56, .int .i64 0, .int .i64 0, .int .i64 0, .int .i64 0, .int .i64 0, .slice none 0 0, .slice none 0 0, .slice none 0 0] : List Value).toArray 29 (0, 0)), M_31, M_54] Z := hS''
    clear hS' hS''
    refine s_shift (r := shr .i64 t_62 3) hm rfl rfl rfl (by decide) (.inr ⟨rfl, rfl⟩) ?_
    clear hm a; intro a hm
    refine s_bits (i := shr .i64 t_62 3) (j := 7) (r := band .i64 (shr .i64 t_62 3) 7) hm rfl rfl rfl (.inl ⟨rfl, rfl⟩) ?_
    clear hm a; intro a hm
    refine s_cmp (b := decide (x_52 < (band .i64 (shr .i64 t_62 3) 7))) hm rfl rfl rfl (.inr (.inr (.inl ⟨rfl, rfl⟩))) ?_
    clear hm a; intro a hm
    refine wpList_nil ?_
    replace hm : Fr 72 a [(2, .pointer (some ⟨g_4, 0, none⟩)), (3, .func (.func 65) #[] [.pointer (some ⟨g_2, 0, none⟩)].toArray), (4, .pointer (some ⟨g_26, 0, none⟩)), (6, .int .i64 x_52), (53, .bool (decide (x_52 < (band .i64 (shr .i64 t_62 3) 7))))] := hm.keep [2, 3, 4, 6, 53]
    refine x_then_n ?_
    by_cases hc_66 : x_52 < (band .i64 (shr .i64 t_62 3) 7)
    · rw [if_pos hc_66] at H
      refine c_cond_t hm rfl (decide_eq_true hc_66) ?_
      refine wp_skip ?_
      refine x_then_n (hKJ_61 _ _ ?_)
      refine c_seq fun KJ_67 hKJ_67 => ?_
      refine c_block ?_
      refine h_begin (S := fun w => Sep w0 w [N_65, Mem.one g_2 (.cells ([p0_0] : List Value).toArray 23 (0, 0)), Mem.one g_4 (.cells ([.int .i64 0, .int .i64 0, .int .i64 0, .int .i64 0, .int .i64 0, .int .i64 0, .bool false, .int .i64 0, .int .i64 0, .int .i64 0, .int .i64 0, .slice none 0 0, .int .i64 0, .int .i64 0, .slice none 0 0, .slice none 0 0, .int .i64 0, .int .i64 0, .int .i64 0, .int .i64 0, .int .i64 0, .slice none 0 0, .slice none 0 0, .slice none 0 0] : List Value).toArray 29 (0, 0)), Mem.no, M_31, Mem.no] Z) 16 (by kernel_rfl) rfl [false, false, false, false, false, false, false, false, false, false, false, false, false, false, false, false].toArray rfl hS fun w_68 hS => ?_
      replace hS : Sep w0 w_68 [N_65, Mem.one g_2 (.cells ([p0_0] : List Value).toArray 23 (0, 0)), Mem.one g_4 (.cells ([.int .i64 0, .int .i64 0, .int .i64 0, .int .i64 0, .int .i64 0, .int .i64 0, .bool false, .int .i64 0, .int .i64 0, .int .i64 0, .int .i64 0, .slice none 0 0, .int .i64 0, .int .i64 0, .slice none 0 0, .slice none 0 0, .int .i64 0, .int .i64 0, .int .i64 0, .int .i64 0, .int .i64 0, .slice none 0 0, .slice none 0 0, .slice none 0 0] : List Value).toArray 29 (0, 0)), Mem.one g_26 (.cells ([.int .i64 7, .int .i64 (band .i64 t_5 3), .int .i64 (band .i64 (shr .i64 t_9 2) 3), .int .i64 (band .i64 (shr .i64 t_13 4) 255), .int .i64 0, .int .i64 0, .bool false, .int .i64 0, .int .i64 0, .int .i64 0, .int .i64 0, .slice none 0 0, .int .i64 (band .i64 t_17 4095), .int .i64 (band .i64 (shr .i64 t_21 12) 63), v_33, v_56, .int .i64 0, .int .i64 0, .int .i64 0, .int .i64 0, .int .i64 0, .slice none 0 0, .slice none 0 0, .slice none 0 0] : List Value).toArray 29 (0, 0)), M_31, M_54] Z := hS
      refine h_take 0 [true, false, false, false, false, false, false, false, false, false, false, false, false, false, false, false].toArray rfl (by kernel_rfl) (by kernel_rfl) (by kernel_rfl) (fun _ _ _ _ h => h) rfl rfl rfl rfl hm (hS.sub (.cons (Mem.le.refl _) (.cons (Mem.le.refl _) (.cons (Mem.le.refl _) (.cons (Mem.no_le _) (.cons (Mem.le.refl _) (.cons (Mem.no_le _) (Sub.nil _)))))))) (v := .pointer (some ⟨g_26, 15, none⟩)) (fun w hS => r_fieldAddr hm Try.underlying29 rfl ti23 rfl rfl rfl) ?_
      clear hm a; intro a hm
      refine h_take 2 [true, false, true, false, false, false, false, false, false, false, false, false, false, false, false, false].toArray rfl (by kernel_rfl) (by kernel_rfl) (by kernel_rfl) (fun _ _ _ _ h => h) rfl rfl rfl rfl hm (hS.sub (.cons (Mem.le.refl _) (.cons (Mem.le.refl _) (.cons (Mem.le.refl _) (.cons (Mem.no_le _) (.cons (Mem.le.refl _) (.cons (Mem.no_le _) (Sub.nil _)))))))) (v := .pointer (some ⟨g_26, 13, none⟩)) (fun w hS => r_fieldAddr hm Try.underlying29 rfl ti3 rfl rfl rfl) ?_
      clear hm a; intro a hm
      refine h_take 4 [true, false, true, false, true, false, false, false, false, false, false, false, false, false, false, false].toArray rfl (by kernel_rfl) (by kernel_rfl) (by kernel_rfl) (fun _ _ _ _ h => h) rfl rfl rfl rfl hm (hS.sub (.cons (Mem.le.refl _) (.cons (Mem.le.refl _) (.cons (Mem.le.refl _) (.cons (Mem.no_le _) (.cons (Mem.le.refl _) (.cons (Mem.no_le _) (Sub.nil _)))))))) (v := .func (.func 65) #[] [.pointer (some ⟨g_2, 0, none⟩)].toArray) (fun w hS => r_move hm rfl) ?_
      clear hm a; intro a hm
      refine h_take 5 [true, false, true, false, true, true, false, false, false, false, false, false, false, false, false, false].toArray rfl (by kernel_rfl) (by kernel_rfl) (by kernel_rfl) (fun _ _ _ _ h => h) rfl rfl rfl rfl hm (hS.sub (.cons (Mem.le.refl _) (.cons (Mem.le.refl _) (.cons (Mem.le.refl _) (.cons (Mem.no_le _) (.cons (Mem.le.refl _) (.cons (Mem.no_le _) (Sub.nil _)))))))) (v := .int .i64 x_52) (fun w hS => r_move hm rfl) ?_
      clear hm a; intro a hm
      refine h_take 6 [true, false, true, false, true, true, true, false, false, false, false, false, false, false, false, false].toArray rfl (by kernel_rfl) (by kernel_rfl) (by kernel_rfl) (fun _ _ _ _ h => h) rfl rfl rfl rfl hm (hS.sub (.cons (Mem.le.refl _) (.cons (Mem.le.refl _) (.cons (Mem.le.refl _) (.cons (Mem.no_le _) (.cons (Mem.le.refl _) (.cons (Mem.no_le _) (Sub.nil _)))))))) (v := .int .i64 (w64 (x_52 + 3))) (fun w hS => r_arith (r := w64 (x_52 + 3)) hm rfl rfl (.inl ⟨rfl, rfl⟩)) ?_
      clear hm a; intro a hm
      obtain ⟨t_69, et_69, H⟩ := Option.bind_eq_some_iff.1 H
      obtain ⟨t_79, et_79, H⟩ := Option.bind_eq_some_iff.1 H
      refine h_events [1, 3, 7] (by kernel_rfl) (by simp) ?_
      intro i hi; simp only [List.mem_cons, List.not_mem_nil, or_false] at hi; rcases hi with rfl | rfl | rfl
      · refine ⟨_, [true, true, true, false, true, true, true, false, false, false, false, false, false, false, false, false].toArray, rfl, rfl, ?_⟩
        refine s_load hm rfl rfl (hS.load_one (p := 3) rfl Try.underlying23 rfl rfl) ?_
        clear hm a; intro a hm
        refine wpList_nil ?_
        refine x_then_n ⟨(hS.sub (.cons (Mem.le.refl _) (.cons (Mem.le.refl _) (.cons (Mem.le.refl _) (.cons (Mem.no_le _) (.cons (Mem.le.refl _) (.cons (Mem.no_le _) (Sub.nil _)))))))), ?_⟩
        refine h_events [3, 7] (by kernel_rfl) (by simp) ?_
        intro i hi; simp only [List.mem_cons, List.not_mem_nil, or_false] at hi; rcases hi with rfl | rfl
        · refine ⟨_, [true, true, true, true, true, true, true, false, false, false, false, false, false, false, false, false].toArray, rfl, rfl, ?_⟩
          refine s_load hm rfl rfl (hS.load_one (p := 3) rfl Try.underlying3 rfl rfl) ?_
          clear hm a; intro a hm
          refine wpList_nil ?_
          refine x_then_n ⟨(hS.sub (.cons (Mem.le.refl _) (.cons (Mem.le.refl _) (.cons (Mem.le.refl _) (.cons (Mem.no_le _) (.cons (Mem.le.refl _) (.cons (Mem.no_le _) (Sub.nil _)))))))), ?_⟩
          refine h_event 7 [true, true, true, true, true, true, true, true, false, false, false, false, false, false, false, false].toArray rfl (by kernel_rfl) rfl ?_
          refine s_callv hm rfl rfl Try.call65 rfl (hocketlaw17_Token_1.calls (w64 (x_52 + 3)) _ x0 _ t_69 w0 _ _ _ (Mem.le.refl _) (hS.enter [0] (by decide)) (hp0_0.mono (hA.trans (hS.le_zed [0]))) et_69) ?_
          rintro _ w_70 ⟨N_71, rfl, hS'⟩
          clear hm a; intro a hm
          obtain ⟨N_72, hS'', le_72, ln_72⟩ := hS.call [0] (by decide) rfl (l' := [Mem.one g_2 (.cells ([p0_0] : List Value).toArray 23 (0, 0))]) (ow := []) rfl hS'
          replace hS : Sep w0 w_70 [N_72, Mem.one g_2 (.cells ([p0_0] : List Value).toArray 23 (0, 0)), Mem.one g_4 (.cells ([.int .i64 0, .int .i64 0, .int .i64 0, .int .i64 0, .int .i64 0, .int .i64 0, .bool false, .int .i64 0, .int .i64 0, .int .i64 0, .int .i64 0, .slice none 0 0, .int .i64 0, .int .i64 0, .slice none 0 0, .slice none 0 0, .int .i64 0, .int .i64 0, .int .i64 0, .int .i64 0, .int .i64 0, .slice none 0 0, .slice none 0 0, .slice none 0 0] : List Value).toArray 29 (0, 0)), Mem.one g_26 (.cells ([.int .i64 7, .int .i64 (band .i64 t_5 3), .int .i64 (band .i64 (shr .i64 t_9 2) 3), .int .i64 (band .i64 (shr .i64 t_13 4) 255), .int .i64 0, .int .i64 0, .bool false, .int .i64 0, .int .i64 0, .int .i64 0, .int .i64 0, .slice none 0 0, .int .i64 (band .i64 t_17 4095), .int .i64 (band .i64 (shr .i64 t_21 12) 63), v_33, v_56, .int .i64 0, .int .i64 0, .int .i64 0, .int .i64 0, .int .i64 0, .slice none 0 0, .slice none 0 0, .slice none 0 0] : List Value).toArray 29 (0, 0)), M_31, M_54] Z := hS''
          clear hS' hS''
          refine wpList_nil ?_
          refine x_then_n ⟨(hS.sub (.cons le_72 (.cons (Mem.le.refl _) (.cons (Mem.le.refl _) (.cons (Mem.no_le _) (.cons (Mem.le.refl _) (.cons (Mem.no_le _) (Sub.nil _)))))))), ?_⟩
          refine h_take 8 [true, true, true, true, true, true, true, true, true, false, false, false, false, false, false, false].toArray rfl (by kernel_rfl) (by kernel_rfl) (by kernel_rfl) (fun _ _ _ _ h => h) rfl rfl rfl rfl hm (hS.sub (.cons le_72 (.cons (Mem.le.refl _) (.cons (Mem.le.refl _) (.cons (Mem.no_le _) (.cons (Mem.le.refl _) (.cons (Mem.no_le _) (Sub.nil _)))))))) (v := .int .i64 (shr .i64 t_69 4)) (fun w hS => r_shift (r := shr .i64 t_69 4) hm rfl rfl (by decide) (.inr ⟨rfl, rfl⟩)) ?_
          clear hm a; intro a hm
          refine h_take 9 [true, true, true, true, true, true, true, true, true, true, false, false, false, false, false, false].toArray rfl (by kernel_rfl) (by kernel_rfl) (by kernel_rfl) (fun _ _ _ _ h => h) rfl rfl rfl rfl hm (hS.sub (.cons le_72 (.cons (Mem.le.refl _) (.cons (Mem.le.refl _) (.cons (Mem.no_le _) (.cons (Mem.le.refl _) (.cons (Mem.no_le _) (Sub.nil _)))))))) (v := .int .i64 (band .i64 (shr .i64 t_69 4) 15)) (fun w hS => r_bits (i := shr .i64 t_69 4) (j := 15) (r := band .i64 (shr .i64 t_69 4) 15) hm rfl rfl (.inl ⟨rfl, rfl⟩)) ?_
          clear hm a; intro a hm
          refine h_take 10 [true, true, true, true, true, true, true, true, true, true, true, false, false, false, false, false].toArray rfl (by kernel_rfl) (by kernel_rfl) (by kernel_rfl) (fun _ _ _ _ h => h) rfl rfl rfl rfl hm (hS.sub (.cons le_72 (.cons (Mem.le.refl _) (.cons (Mem.le.refl _) (.cons (Mem.no_le _) (.cons (Mem.le.refl _) (.cons (Mem.no_le _) (Sub.nil _)))))))) (v := .int .i64 (w64 ((band .i64 (shr .i64 t_21 12) 63) - (band .i64 (shr .i64 t_69 4) 15)))) (fun w hS => r_arith (r := w64 ((band .i64 (shr .i64 t_21 12) 63) - (band .i64 (shr .i64 t_69 4) 15))) hm rfl rfl (.inr (.inl ⟨rfl, rfl⟩))) ?_
          clear hm a; intro a hm
          refine h_take 11 [true, true, true, true, true, true, true, true, true, true, true, true, false, false, false, false].toArray rfl (by kernel_rfl) (by kernel_rfl) (by kernel_rfl) (fun _ _ _ _ h => h) rfl rfl rfl rfl hm (hS.sub (.cons le_72 (.cons (Mem.le.refl _) (.cons (Mem.le.refl _) (.cons (Mem.no_le _) (.cons (Mem.le.refl _) (.cons (Mem.no_le _) (Sub.nil _)))))))) (v := .int .i64 (mx (w64 ((band .i64 (shr .i64 t_21 12) 63) - (band .i64 (shr .i64 t_69 4) 15))) 0)) (fun w hS => r_max hm rfl rfl) ?_
          clear hm a; intro a hm
          refine h_event 12 [true, true, true, true, true, true, true, true, true, true, true, true, true, false, false, false].toArray rfl (by kernel_rfl) rfl ?_
          have hq_77 : Reps (Kd.int .i64) Mem.no ([mx (w64 ((band .i64 (shr .i64 t_21 12) 63) - (band .i64 (shr .i64 t_69 4) 15))) 0] : List Int) _ := ((Reps.one (d := (Kd.int .i64)) (x := mx (w64 ((band .i64 (shr .i64 t_21 12) 63) - (band .i64 (shr .i64 t_69 4) 15))) 0) (show (Kd.int .i64).K _ _ [.int .i64 (mx (w64 ((band .i64 (shr .i64 t_21 12) 63) - (band .i64 (shr .i64 t_69 4) 15))) 0)] from rfl)).append (Reps.nil (Kd.int .i64) _))
          refine s_buildSlice hm rfl Try.underlying23 ti3 rfl rfl rfl (.cons rfl .nil) rfl rfl rfl hS hq_77 rfl ?_
          intro w_73 v_74 M_75 hS' ho_76
          clear hm a; intro a hm
          replace hS : Sep w0 w_73 [N_72, Mem.one g_2 (.cells ([p0_0] : List Value).toArray 23 (0, 0)), Mem.one g_4 (.cells ([.int .i64 0, .int .i64 0, .int .i64 0, .int .i64 0, .int .i64 0, .int .i64 0, .bool false, .int .i64 0, .int .i64 0, .int .i64 0, .int .i64 0, .slice none 0 0, .int .i64 0, .int .i64 0, .slice none 0 0, .slice none 0 0, .int .i64 0, .int .i64 0, .int .i64 0, .int .i64 0, .int .i64 0, .slice none 0 0, .slice none 0 0, .slice none 0 0] : List Value).toArray 29 (0, 0)), Mem.one g_26 (.cells ([.int .i64 7, .int .i64 (band .i64 t_5 3), .int .i64 (band .i64 (shr .i64 t_9 2) 3), .int .i64 (band .i64 (shr .i64 t_13 4) 255), .int .i64 0, .int .i64 0, .bool false, .int .i64 0, .int .i64 0, .int .i64 0, .int .i64 0, .slice none 0 0, .int .i64 (band .i64 t_17 4095), .int .i64 (band .i64 (shr .i64 t_21 12) 63), v_33, v_56, .int .i64 0, .int .i64 0, .int .i64 0, .int .i64 0, .int .i64 0, .slice none 0 0, .slice none 0 0, .slice none 0 0] : List Value).toArray 29 (0, 0)), M_31, M_54, M_75] Z := hS'
          clear hS' hq_77
          refine wpList_nil ?_
          refine x_then_n ⟨(hS.sub (.cons le_72 (.cons (Mem.le.refl _) (.cons (Mem.le.refl _) (.cons (Mem.no_le _) (.cons (Mem.le.refl _) (.cons (Mem.no_le _) (Sub.nil _)))))))), ?_⟩
          refine h_event 13 [true, true, true, true, true, true, true, true, true, true, true, true, true, true, false, false].toArray rfl (by kernel_rfl) rfl ?_
          refine s_append (J := Mem.no) (I' := Mem.no) (p := 5) 17592186044416 hm rfl rfl rfl Try.underlying23 ti3 rfl rfl rfl rfl hS rfl ho_57 (Src.flat (flat_int .i64) (ho_76.src (hS.own 6))) (Mem.le.refl _) (Mem.le.refl _) et_79 ?_
          intro w_80 v_81 M_82 hS' ho_83
          clear hm a; intro a hm
          replace hS : Sep w0 w_80 [N_72, Mem.one g_2 (.cells ([p0_0] : List Value).toArray 23 (0, 0)), Mem.one g_4 (.cells ([.int .i64 0, .int .i64 0, .int .i64 0, .int .i64 0, .int .i64 0, .int .i64 0, .bool false, .int .i64 0, .int .i64 0, .int .i64 0, .int .i64 0, .slice none 0 0, .int .i64 0, .int .i64 0, .slice none 0 0, .slice none 0 0, .int .i64 0, .int .i64 0, .int .i64 0, .int .i64 0, .int .i64 0, .slice none 0 0, .slice none 0 0, .slice none 0 0] : List Value).toArray 29 (0, 0)), Mem.one g_26 (.cells ([.int .i64 7, .int .i64 (band .i64 t_5 3), .int .i64 (band .i64 (shr .i64 t_9 2) 3), .int .i64 (band .i64 (shr .i64 t_13 4) 255), .int .i64 0, .int .i64 0, .bool false, .int .i64 0, .int .i64 0, .int .i64 0, .int .i64 0, .slice none 0 0, .int .i64 (band .i64 t_17 4095), .int .i64 (band .i64 (shr .i64 t_21 12) 63), v_33, v_56, .int .i64 0, .int .i64 0, .int .i64 0, .int .i64 0, .int .i64 0, .slice none 0 0, .slice none 0 0, .slice none 0 0] : List Value).toArray 29 (0, 0)), M_31, M_82, M_75] Z := hS'
          clear hS'
          refine wpList_nil ?_
          refine x_then_n ⟨(hS.sub (.cons le_72 (.cons (Mem.le.refl _) (.cons (Mem.le.refl _) (.cons (Mem.no_le _) (.cons (Mem.le.refl _) (.cons (Mem.no_le _) (Sub.nil _)))))))), ?_⟩
          refine h_take 14 [true, true, true, true, true, true, true, true, true, true, true, true, true, true, true, false].toArray rfl (by kernel_rfl) (by kernel_rfl) (by kernel_rfl) (fun _ _ _ _ h => h) rfl rfl rfl rfl hm (hS.sub (.cons le_72 (.cons (Mem.le.refl _) (.cons (Mem.le.refl _) (.cons (Mem.no_le _) (.cons (Mem.le.refl _) (.cons (Mem.no_le _) (Sub.nil _)))))))) (v := .pointer (some ⟨g_26, 15, none⟩)) (fun w hS => r_fieldAddr hm Try.underlying29 rfl ti23 rfl rfl rfl) ?_
          clear hm a; intro a hm
          refine h_event 15 [true, true, true, true, true, true, true, true, true, true, true, true, true, true, true, true].toArray rfl (by kernel_rfl) rfl ?_
          obtain ⟨w_85, hs', hS'⟩ := hS.store (P := Try.prog) (p := 3) (o := 15) (t := 23) (v := v_81) (vs := [v_81]) rfl ti23 ho_83.cellsA rfl rfl (by intro u hu; simp only [List.mem_cons, List.not_mem_nil, or_false] at hu; rcases hu with rfl <;> first | rfl | exact ho_83.one)
          refine s_store hm rfl rfl hs' ?_
          replace hS : Sep w0 w_85 [N_72, Mem.one g_2 (.cells ([p0_0] : List Value).toArray 23 (0, 0)), Mem.one g_4 (.cells ([.int .i64 0, .int .i64 0, .int .i64 0, .int .i64 0, .int .i64 0, .int .i64 0, .bool false, .int .i64 0, .int .i64 0, .int .i64 0, .int .i64 0, .slice none 0 0, .int .i64 0, .int .i64 0, .slice none 0 0, .slice none 0 0, .int .i64 0, .int .i64 0, .int .i64 0, .int .i64 0, .int .i64 0, .slice none 0 0, .slice none 0 0, .slice none 0 0] : List Value).toArray 29 (0, 0)), Mem.one g_26 (.cells ([.int .i64 7, .int .i64 (band .i64 t_5 3), .int .i64 (band .i64 (shr .i64 t_9 2) 3), .int .i64 (band .i64 (shr .i64 t_13 4) 255), .int .i64 0, .int .i64 0, .bool false, .int .i64 0, .int .i64 0, .int .i64 0, .int .i64 0, .slice none 0 0, .int .i64 (band .i64 t_17 4095), .int .i64 (band .i64 (shr .i64 t_21 12) 63), v_33, v_81, .int .i64 0, .int .i64 0, .int .i64 0, .int .i64 0, .int .i64 0, .slice none 0 0, .slice none 0 0, .slice none 0 0] : List Value).toArray 29 (0, 0)), M_31, M_82, M_75] Z := hS'
          clear hs' hS'
          refine wpList_nil ?_
          refine x_then_n ⟨(hS.sub (.cons le_72 (.cons (Mem.le.refl _) (.cons (Mem.le.refl _) (.cons (Mem.no_le _) (.cons (Mem.le.refl _) (.cons (Mem.no_le _) (Sub.nil _)))))))), ?_⟩
          refine h_done (by kernel_rfl) ?_
          replace hm : Fr 72 a [(2, .pointer (some ⟨g_4, 0, none⟩)), (3, .func (.func 65) #[] [.pointer (some ⟨g_2, 0, none⟩)].toArray), (4, .pointer (some ⟨g_26, 0, none⟩)), (6, .int .i64 x_52)] := hm.keep [2, 3, 4, 6]
          refine x_block_n ?_
          refine x_then_n (hKJ_67 _ _ ?_)
          refine wp_region_lit ?_
          refine s_move hm rfl rfl ?_
          clear hm a; intro a hm
          refine s_arith (r := w64 (x_52 + 1)) hm rfl rfl rfl (.inl ⟨rfl, rfl⟩) ?_
          clear hm a; intro a hm
          refine s_assign hm rfl rfl ?_
          clear hm a; intro a hm
          refine wpList_nil ?_
          replace hm : Fr 72 a [(2, .pointer (some ⟨g_4, 0, none⟩)), (3, .func (.func 65) #[] [.pointer (some ⟨g_2, 0, none⟩)].toArray), (4, .pointer (some ⟨g_26, 0, none⟩)), (6, .int .i64 (w64 (x_52 + 1)))] := hm.keep [2, 3, 4, 6]
          refine x_then_n (hKL_58 _ _ ?_)
          replace hS : Sep w0 w_85 [N_72, Mem.one g_2 (.cells ([p0_0] : List Value).toArray 23 (0, 0)), Mem.one g_4 (.cells ([.int .i64 0, .int .i64 0, .int .i64 0, .int .i64 0, .int .i64 0, .int .i64 0, .bool false, .int .i64 0, .int .i64 0, .int .i64 0, .int .i64 0, .slice none 0 0, .int .i64 0, .int .i64 0, .slice none 0 0, .slice none 0 0, .int .i64 0, .int .i64 0, .int .i64 0, .int .i64 0, .int .i64 0, .slice none 0 0, .slice none 0 0, .slice none 0 0] : List Value).toArray 29 (0, 0)), Mem.one g_26 (.cells ([.int .i64 7, .int .i64 (band .i64 t_5 3), .int .i64 (band .i64 (shr .i64 t_9 2) 3), .int .i64 (band .i64 (shr .i64 t_13 4) 255), .int .i64 0, .int .i64 0, .bool false, .int .i64 0, .int .i64 0, .int .i64 0, .int .i64 0, .slice none 0 0, .int .i64 (band .i64 t_17 4095), .int .i64 (band .i64 (shr .i64 t_21 12) 63), v_33, v_81, .int .i64 0, .int .i64 0, .int .i64 0, .int .i64 0, .int .i64 0, .slice none 0 0, .slice none 0 0, .slice none 0 0] : List Value).toArray 29 (0, 0)), M_31, M_82, M_75] Z := hS
          replace hm : Fr 72 a [(2, .pointer (some ⟨g_4, 0, none⟩)), (3, .func (.func 65) #[] [.pointer (some ⟨g_2, 0, none⟩)].toArray), (4, .pointer (some ⟨g_26, 0, none⟩)), (6, .int .i64 (w64 (x_52 + 1)))] := hm.keep [2, 3, 4, 6]
          exact ⟨w64 (x_52 + 1), t_79, v_81, N_72, M_82, H, hm, (Sep.sel hS [0, 1, 2, 3, 4, 5] (by decide)), (le_51.trans (le_65.trans le_72)), ho_83⟩
        · refine ⟨_, [true, true, true, false, true, true, true, true, false, false, false, false, false, false, false, false].toArray, rfl, rfl, ?_⟩
          refine s_callv hm rfl rfl Try.call65 rfl (hocketlaw17_Token_1.calls (w64 (x_52 + 3)) _ x0 _ t_69 w0 _ _ _ (Mem.le.refl _) (hS.enter [0] (by decide)) (hp0_0.mono (hA.trans (hS.le_zed [0]))) et_69) ?_
          rintro _ w_87 ⟨N_88, rfl, hS'⟩
          clear hm a; intro a hm
          obtain ⟨N_89, hS'', le_89, ln_89⟩ := hS.call [0] (by decide) rfl (l' := [Mem.one g_2 (.cells ([p0_0] : List Value).toArray 23 (0, 0))]) (ow := []) rfl hS'
          replace hS : Sep w0 w_87 [N_89, Mem.one g_2 (.cells ([p0_0] : List Value).toArray 23 (0, 0)), Mem.one g_4 (.cells ([.int .i64 0, .int .i64 0, .int .i64 0, .int .i64 0, .int .i64 0, .int .i64 0, .bool false, .int .i64 0, .int .i64 0, .int .i64 0, .int .i64 0, .slice none 0 0, .int .i64 0, .int .i64 0, .slice none 0 0, .slice none 0 0, .int .i64 0, .int .i64 0, .int .i64 0, .int .i64 0, .int .i64 0, .slice none 0 0, .slice none 0 0, .slice none 0 0] : List Value).toArray 29 (0, 0)), Mem.one g_26 (.cells ([.int .i64 7, .int .i64 (band .i64 t_5 3), .int .i64 (band .i64 (shr .i64 t_9 2) 3), .int .i64 (band .i64 (shr .i64 t_13 4) 255), .int .i64 0, .int .i64 0, .bool false, .int .i64 0, .int .i64 0, .int .i64 0, .int .i64 0, .slice none 0 0, .int .i64 (band .i64 t_17 4095), .int .i64 (band .i64 (shr .i64 t_21 12) 63), v_33, v_56, .int .i64 0, .int .i64 0, .int .i64 0, .int .i64 0, .int .i64 0, .slice none 0 0, .slice none 0 0, .slice none 0 0] : List Value).toArray 29 (0, 0)), M_31, M_54] Z := hS''
          clear hS' hS''
          refine wpList_nil ?_
          refine x_then_n ⟨(hS.sub (.cons le_89 (.cons (Mem.le.refl _) (.cons (Mem.le.refl _) (.cons (Mem.no_le _) (.cons (Mem.le.refl _) (.cons (Mem.no_le _) (Sub.nil _)))))))), ?_⟩
          refine h_take 8 [true, true, true, false, true, true, true, true, true, false, false, false, false, false, false, false].toArray rfl (by kernel_rfl) (by kernel_rfl) (by kernel_rfl) (fun _ _ _ _ h => h) rfl rfl rfl rfl hm (hS.sub (.cons le_89 (.cons (Mem.le.refl _) (.cons (Mem.le.refl _) (.cons (Mem.no_le _) (.cons (Mem.le.refl _) (.cons (Mem.no_le _) (Sub.nil _)))))))) (v := .int .i64 (shr .i64 t_69 4)) (fun w hS => r_shift (r := shr .i64 t_69 4) hm rfl rfl (by decide) (.inr ⟨rfl, rfl⟩)) ?_
          clear hm a; intro a hm
          refine h_take 9 [true, true, true, false, true, true, true, true, true, true, false, false, false, false, false, false].toArray rfl (by kernel_rfl) (by kernel_rfl) (by kernel_rfl) (fun _ _ _ _ h => h) rfl rfl rfl rfl hm (hS.sub (.cons le_89 (.cons (Mem.le.refl _) (.cons (Mem.le.refl _) (.cons (Mem.no_le _) (.cons (Mem.le.refl _) (.cons (Mem.no_le _) (Sub.nil _)))))))) (v := .int .i64 (band .i64 (shr .i64 t_69 4) 15)) (fun w hS => r_bits (i := shr .i64 t_69 4) (j := 15) (r := band .i64 (shr .i64 t_69 4) 15) hm rfl rfl (.inl ⟨rfl, rfl⟩)) ?_
          clear hm a; intro a hm
          refine h_event 3 [true, true, true, true, true, true, true, true, true, true, false, false, false, false, false, false].toArray rfl (by kernel_rfl) rfl ?_
          refine s_load hm rfl rfl (hS.load_one (p := 3) rfl Try.underlying3 rfl rfl) ?_
          clear hm a; intro a hm
          refine wpList_nil ?_
          refine x_then_n ⟨(hS.sub (.cons le_89 (.cons (Mem.le.refl _) (.cons (Mem.le.refl _) (.cons (Mem.no_le _) (.cons (Mem.le.refl _) (.cons (Mem.no_le _) (Sub.nil _)))))))), ?_⟩
          refine h_take 10 [true, true, true, true, true, true, true, true, true, true, true, false, false, false, false, false].toArray rfl (by kernel_rfl) (by kernel_rfl) (by kernel_rfl) (fun _ _ _ _ h => h) rfl rfl rfl rfl hm (hS.sub (.cons le_89 (.cons (Mem.le.refl _) (.cons (Mem.le.refl _) (.cons (Mem.no_le _) (.cons (Mem.le.refl _) (.cons (Mem.no_le _) (Sub.nil _)))))))) (v := .int .i64 (w64 ((band .i64 (shr .i64 t_21 12) 63) - (band .i64 (shr .i64 t_69 4) 15)))) (fun w hS => r_arith (r := w64 ((band .i64 (shr .i64 t_21 12) 63) - (band .i64 (shr .i64 t_69 4) 15))) hm rfl rfl (.inr (.inl ⟨rfl, rfl⟩))) ?_
          clear hm a; intro a hm
          refine h_take 11 [true, true, true, true, true, true, true, true, true, true, true, true, false, false, false, false].toArray rfl (by kernel_rfl) (by kernel_rfl) (by kernel_rfl) (fun _ _ _ _ h => h) rfl rfl rfl rfl hm (hS.sub (.cons le_89 (.cons (Mem.le.refl _) (.cons (Mem.le.refl _) (.cons (Mem.no_le _) (.cons (Mem.le.refl _) (.cons (Mem.no_le _) (Sub.nil _)))))))) (v := .int .i64 (mx (w64 ((band .i64 (shr .i64 t_21 12) 63) - (band .i64 (shr .i64 t_69 4) 15))) 0)) (fun w hS => r_max hm rfl rfl) ?_
          clear hm a; intro a hm
          refine h_event 12 [true, true, true, true, true, true, true, true, true, true, true, true, true, false, false, false].toArray rfl (by kernel_rfl) rfl ?_
          have hq_94 : Reps (Kd.int .i64) Mem.no ([mx (w64 ((band .i64 (shr .i64 t_21 12) 63) - (band .i64 (shr .i64 t_69 4) 15))) 0] : List Int) _ := ((Reps.one (d := (Kd.int .i64)) (x := mx (w64 ((band .i64 (shr .i64 t_21 12) 63) - (band .i64 (shr .i64 t_69 4) 15))) 0) (show (Kd.int .i64).K _ _ [.int .i64 (mx (w64 ((band .i64 (shr .i64 t_21 12) 63) - (band .i64 (shr .i64 t_69 4) 15))) 0)] from rfl)).append (Reps.nil (Kd.int .i64) _))
          refine s_buildSlice hm rfl Try.underlying23 ti3 rfl rfl rfl (.cons rfl .nil) rfl rfl rfl hS hq_94 rfl ?_
          intro w_90 v_91 M_92 hS' ho_93
          clear hm a; intro a hm
          replace hS : Sep w0 w_90 [N_89, Mem.one g_2 (.cells ([p0_0] : List Value).toArray 23 (0, 0)), Mem.one g_4 (.cells ([.int .i64 0, .int .i64 0, .int .i64 0, .int .i64 0, .int .i64 0, .int .i64 0, .bool false, .int .i64 0, .int .i64 0, .int .i64 0, .int .i64 0, .slice none 0 0, .int .i64 0, .int .i64 0, .slice none 0 0, .slice none 0 0, .int .i64 0, .int .i64 0, .int .i64 0, .int .i64 0, .int .i64 0, .slice none 0 0, .slice none 0 0, .slice none 0 0] : List Value).toArray 29 (0, 0)), Mem.one g_26 (.cells ([.int .i64 7, .int .i64 (band .i64 t_5 3), .int .i64 (band .i64 (shr .i64 t_9 2) 3), .int .i64 (band .i64 (shr .i64 t_13 4) 255), .int .i64 0, .int .i64 0, .bool false, .int .i64 0, .int .i64 0, .int .i64 0, .int .i64 0, .slice none 0 0, .int .i64 (band .i64 t_17 4095), .int .i64 (band .i64 (shr .i64 t_21 12) 63), v_33, v_56, .int .i64 0, .int .i64 0, .int .i64 0, .int .i64 0, .int .i64 0, .slice none 0 0, .slice none 0 0, .slice none 0 0] : List Value).toArray 29 (0, 0)), M_31, M_54, M_92] Z := hS'
          clear hS' hq_94
          refine wpList_nil ?_
          refine x_then_n ⟨(hS.sub (.cons le_89 (.cons (Mem.le.refl _) (.cons (Mem.le.refl _) (.cons (Mem.no_le _) (.cons (Mem.le.refl _) (.cons (Mem.no_le _) (Sub.nil _)))))))), ?_⟩
          refine h_event 13 [true, true, true, true, true, true, true, true, true, true, true, true, true, true, false, false].toArray rfl (by kernel_rfl) rfl ?_
          refine s_append (J := Mem.no) (I' := Mem.no) (p := 5) 17592186044416 hm rfl rfl rfl Try.underlying23 ti3 rfl rfl rfl rfl hS rfl ho_57 (Src.flat (flat_int .i64) (ho_93.src (hS.own 6))) (Mem.le.refl _) (Mem.le.refl _) et_79 ?_
          intro w_97 v_98 M_99 hS' ho_100
          clear hm a; intro a hm
          replace hS : Sep w0 w_97 [N_89, Mem.one g_2 (.cells ([p0_0] : List Value).toArray 23 (0, 0)), Mem.one g_4 (.cells ([.int .i64 0, .int .i64 0, .int .i64 0, .int .i64 0, .int .i64 0, .int .i64 0, .bool false, .int .i64 0, .int .i64 0, .int .i64 0, .int .i64 0, .slice none 0 0, .int .i64 0, .int .i64 0, .slice none 0 0, .slice none 0 0, .int .i64 0, .int .i64 0, .int .i64 0, .int .i64 0, .int .i64 0, .slice none 0 0, .slice none 0 0, .slice none 0 0] : List Value).toArray 29 (0, 0)), Mem.one g_26 (.cells ([.int .i64 7, .int .i64 (band .i64 t_5 3), .int .i64 (band .i64 (shr .i64 t_9 2) 3), .int .i64 (band .i64 (shr .i64 t_13 4) 255), .int .i64 0, .int .i64 0, .bool false, .int .i64 0, .int .i64 0, .int .i64 0, .int .i64 0, .slice none 0 0, .int .i64 (band .i64 t_17 4095), .int .i64 (band .i64 (shr .i64 t_21 12) 63), v_33, v_56, .int .i64 0, .int .i64 0, .int .i64 0, .int .i64 0, .int .i64 0, .slice none 0 0, .slice none 0 0, .slice none 0 0] : List Value).toArray 29 (0, 0)), M_31, M_99, M_92] Z := hS'
          clear hS'
          refine wpList_nil ?_
          refine x_then_n ⟨(hS.sub (.cons le_89 (.cons (Mem.le.refl _) (.cons (Mem.le.refl _) (.cons (Mem.no_le _) (.cons (Mem.le.refl _) (.cons (Mem.no_le _) (Sub.nil _)))))))), ?_⟩
          refine h_take 14 [true, true, true, true, true, true, true, true, true, true, true, true, true, true, true, false].toArray rfl (by kernel_rfl) (by kernel_rfl) (by kernel_rfl) (fun _ _ _ _ h => h) rfl rfl rfl rfl hm (hS.sub (.cons le_89 (.cons (Mem.le.refl _) (.cons (Mem.le.refl _) (.cons (Mem.no_le _) (.cons (Mem.le.refl _) (.cons (Mem.no_le _) (Sub.nil _)))))))) (v := .pointer (some ⟨g_26, 15, none⟩)) (fun w hS => r_fieldAddr hm Try.underlying29 rfl ti23 rfl rfl rfl) ?_
          clear hm a; intro a hm
          refine h_event 15 [true, true, true, true, true, true, true, true, true, true, true, true, true, true, true, true].toArray rfl (by kernel_rfl) rfl ?_
          obtain ⟨w_102, hs', hS'⟩ := hS.store (P := Try.prog) (p := 3) (o := 15) (t := 23) (v := v_98) (vs := [v_98]) rfl ti23 ho_100.cellsA rfl rfl (by intro u hu; simp only [List.mem_cons, List.not_mem_nil, or_false] at hu; rcases hu with rfl <;> first | rfl | exact ho_100.one)
          refine s_store hm rfl rfl hs' ?_
          replace hS : Sep w0 w_102 [N_89, Mem.one g_2 (.cells ([p0_0] : List Value).toArray 23 (0, 0)), Mem.one g_4 (.cells ([.int .i64 0, .int .i64 0, .int .i64 0, .int .i64 0, .int .i64 0, .int .i64 0, .bool false, .int .i64 0, .int .i64 0, .int .i64 0, .int .i64 0, .slice none 0 0, .int .i64 0, .int .i64 0, .slice none 0 0, .slice none 0 0, .int .i64 0, .int .i64 0, .int .i64 0, .int .i64 0, .int .i64 0, .slice none 0 0, .slice none 0 0, .slice none 0 0] : List Value).toArray 29 (0, 0)), Mem.one g_26 (.cells ([.int .i64 7, .int .i64 (band .i64 t_5 3), .int .i64 (band .i64 (shr .i64 t_9 2) 3), .int .i64 (band .i64 (shr .i64 t_13 4) 255), .int .i64 0, .int .i64 0, .bool false, .int .i64 0, .int .i64 0, .int .i64 0, .int .i64 0, .slice none 0 0, .int .i64 (band .i64 t_17 4095), .int .i64 (band .i64 (shr .i64 t_21 12) 63), v_33, v_98, .int .i64 0, .int .i64 0, .int .i64 0, .int .i64 0, .int .i64 0, .slice none 0 0, .slice none 0 0, .slice none 0 0] : List Value).toArray 29 (0, 0)), M_31, M_99, M_92] Z := hS'
          clear hs' hS'
          refine wpList_nil ?_
          refine x_then_n ⟨(hS.sub (.cons le_89 (.cons (Mem.le.refl _) (.cons (Mem.le.refl _) (.cons (Mem.no_le _) (.cons (Mem.le.refl _) (.cons (Mem.no_le _) (Sub.nil _)))))))), ?_⟩
          refine h_done (by kernel_rfl) ?_
          replace hm : Fr 72 a [(2, .pointer (some ⟨g_4, 0, none⟩)), (3, .func (.func 65) #[] [.pointer (some ⟨g_2, 0, none⟩)].toArray), (4, .pointer (some ⟨g_26, 0, none⟩)), (6, .int .i64 x_52)] := hm.keep [2, 3, 4, 6]
          refine x_block_n ?_
          refine x_then_n (hKJ_67 _ _ ?_)
          refine wp_region_lit ?_
          refine s_move hm rfl rfl ?_
          clear hm a; intro a hm
          refine s_arith (r := w64 (x_52 + 1)) hm rfl rfl rfl (.inl ⟨rfl, rfl⟩) ?_
          clear hm a; intro a hm
          refine s_assign hm rfl rfl ?_
          clear hm a; intro a hm
          refine wpList_nil ?_
          replace hm : Fr 72 a [(2, .pointer (some ⟨g_4, 0, none⟩)), (3, .func (.func 65) #[] [.pointer (some ⟨g_2, 0, none⟩)].toArray), (4, .pointer (some ⟨g_26, 0, none⟩)), (6, .int .i64 (w64 (x_52 + 1)))] := hm.keep [2, 3, 4, 6]
          refine x_then_n (hKL_58 _ _ ?_)
          replace hS : Sep w0 w_102 [N_89, Mem.one g_2 (.cells ([p0_0] : List Value).toArray 23 (0, 0)), Mem.one g_4 (.cells ([.int .i64 0, .int .i64 0, .int .i64 0, .int .i64 0, .int .i64 0, .int .i64 0, .bool false, .int .i64 0, .int .i64 0, .int .i64 0, .int .i64 0, .slice none 0 0, .int .i64 0, .int .i64 0, .slice none 0 0, .slice none 0 0, .int .i64 0, .int .i64 0, .int .i64 0, .int .i64 0, .int .i64 0, .slice none 0 0, .slice none 0 0, .slice none 0 0] : List Value).toArray 29 (0, 0)), Mem.one g_26 (.cells ([.int .i64 7, .int .i64 (band .i64 t_5 3), .int .i64 (band .i64 (shr .i64 t_9 2) 3), .int .i64 (band .i64 (shr .i64 t_13 4) 255), .int .i64 0, .int .i64 0, .bool false, .int .i64 0, .int .i64 0, .int .i64 0, .int .i64 0, .slice none 0 0, .int .i64 (band .i64 t_17 4095), .int .i64 (band .i64 (shr .i64 t_21 12) 63), v_33, v_98, .int .i64 0, .int .i64 0, .int .i64 0, .int .i64 0, .int .i64 0, .slice none 0 0, .slice none 0 0, .slice none 0 0] : List Value).toArray 29 (0, 0)), M_31, M_99, M_92] Z := hS
          replace hm : Fr 72 a [(2, .pointer (some ⟨g_4, 0, none⟩)), (3, .func (.func 65) #[] [.pointer (some ⟨g_2, 0, none⟩)].toArray), (4, .pointer (some ⟨g_26, 0, none⟩)), (6, .int .i64 (w64 (x_52 + 1)))] := hm.keep [2, 3, 4, 6]
          exact ⟨w64 (x_52 + 1), t_79, v_98, N_89, M_99, H, hm, (Sep.sel hS [0, 1, 2, 3, 4, 5] (by decide)), (le_51.trans (le_65.trans le_89)), ho_100⟩
      · refine ⟨_, [true, false, true, true, true, true, true, false, false, false, false, false, false, false, false, false].toArray, rfl, rfl, ?_⟩
        refine s_load hm rfl rfl (hS.load_one (p := 3) rfl Try.underlying3 rfl rfl) ?_
        clear hm a; intro a hm
        refine wpList_nil ?_
        refine x_then_n ⟨(hS.sub (.cons (Mem.le.refl _) (.cons (Mem.le.refl _) (.cons (Mem.le.refl _) (.cons (Mem.no_le _) (.cons (Mem.le.refl _) (.cons (Mem.no_le _) (Sub.nil _)))))))), ?_⟩
        refine h_events [1, 7] (by kernel_rfl) (by simp) ?_
        intro i hi; simp only [List.mem_cons, List.not_mem_nil, or_false] at hi; rcases hi with rfl | rfl
        · refine ⟨_, [true, true, true, true, true, true, true, false, false, false, false, false, false, false, false, false].toArray, rfl, rfl, ?_⟩
          refine s_load hm rfl rfl (hS.load_one (p := 3) rfl Try.underlying23 rfl rfl) ?_
          clear hm a; intro a hm
          refine wpList_nil ?_
          refine x_then_n ⟨(hS.sub (.cons (Mem.le.refl _) (.cons (Mem.le.refl _) (.cons (Mem.le.refl _) (.cons (Mem.no_le _) (.cons (Mem.le.refl _) (.cons (Mem.no_le _) (Sub.nil _)))))))), ?_⟩
          refine h_event 7 [true, true, true, true, true, true, true, true, false, false, false, false, false, false, false, false].toArray rfl (by kernel_rfl) rfl ?_
          refine s_callv hm rfl rfl Try.call65 rfl (hocketlaw17_Token_1.calls (w64 (x_52 + 3)) _ x0 _ t_69 w0 _ _ _ (Mem.le.refl _) (hS.enter [0] (by decide)) (hp0_0.mono (hA.trans (hS.le_zed [0]))) et_69) ?_
          rintro _ w_104 ⟨N_105, rfl, hS'⟩
          clear hm a; intro a hm
          obtain ⟨N_106, hS'', le_106, ln_106⟩ := hS.call [0] (by decide) rfl (l' := [Mem.one g_2 (.cells ([p0_0] : List Value).toArray 23 (0, 0))]) (ow := []) rfl hS'
          replace hS : Sep w0 w_104 [N_106, Mem.one g_2 (.cells ([p0_0] : List Value).toArray 23 (0, 0)), Mem.one g_4 (.cells ([.int .i64 0, .int .i64 0, .int .i64 0, .int .i64 0, .int .i64 0, .int .i64 0, .bool false, .int .i64 0, .int .i64 0, .int .i64 0, .int .i64 0, .slice none 0 0, .int .i64 0, .int .i64 0, .slice none 0 0, .slice none 0 0, .int .i64 0, .int .i64 0, .int .i64 0, .int .i64 0, .int .i64 0, .slice none 0 0, .slice none 0 0, .slice none 0 0] : List Value).toArray 29 (0, 0)), Mem.one g_26 (.cells ([.int .i64 7, .int .i64 (band .i64 t_5 3), .int .i64 (band .i64 (shr .i64 t_9 2) 3), .int .i64 (band .i64 (shr .i64 t_13 4) 255), .int .i64 0, .int .i64 0, .bool false, .int .i64 0, .int .i64 0, .int .i64 0, .int .i64 0, .slice none 0 0, .int .i64 (band .i64 t_17 4095), .int .i64 (band .i64 (shr .i64 t_21 12) 63), v_33, v_56, .int .i64 0, .int .i64 0, .int .i64 0, .int .i64 0, .int .i64 0, .slice none 0 0, .slice none 0 0, .slice none 0 0] : List Value).toArray 29 (0, 0)), M_31, M_54] Z := hS''
          clear hS' hS''
          refine wpList_nil ?_
          refine x_then_n ⟨(hS.sub (.cons le_106 (.cons (Mem.le.refl _) (.cons (Mem.le.refl _) (.cons (Mem.no_le _) (.cons (Mem.le.refl _) (.cons (Mem.no_le _) (Sub.nil _)))))))), ?_⟩
          refine h_take 8 [true, true, true, true, true, true, true, true, true, false, false, false, false, false, false, false].toArray rfl (by kernel_rfl) (by kernel_rfl) (by kernel_rfl) (fun _ _ _ _ h => h) rfl rfl rfl rfl hm (hS.sub (.cons le_106 (.cons (Mem.le.refl _) (.cons (Mem.le.refl _) (.cons (Mem.no_le _) (.cons (Mem.le.refl _) (.cons (Mem.no_le _) (Sub.nil _)))))))) (v := .int .i64 (shr .i64 t_69 4)) (fun w hS => r_shift (r := shr .i64 t_69 4) hm rfl rfl (by decide) (.inr ⟨rfl, rfl⟩)) ?_
          clear hm a; intro a hm
          refine h_take 9 [true, true, true, true, true, true, true, true, true, true, false, false, false, false, false, false].toArray rfl (by kernel_rfl) (by kernel_rfl) (by kernel_rfl) (fun _ _ _ _ h => h) rfl rfl rfl rfl hm (hS.sub (.cons le_106 (.cons (Mem.le.refl _) (.cons (Mem.le.refl _) (.cons (Mem.no_le _) (.cons (Mem.le.refl _) (.cons (Mem.no_le _) (Sub.nil _)))))))) (v := .int .i64 (band .i64 (shr .i64 t_69 4) 15)) (fun w hS => r_bits (i := shr .i64 t_69 4) (j := 15) (r := band .i64 (shr .i64 t_69 4) 15) hm rfl rfl (.inl ⟨rfl, rfl⟩)) ?_
          clear hm a; intro a hm
          refine h_take 10 [true, true, true, true, true, true, true, true, true, true, true, false, false, false, false, false].toArray rfl (by kernel_rfl) (by kernel_rfl) (by kernel_rfl) (fun _ _ _ _ h => h) rfl rfl rfl rfl hm (hS.sub (.cons le_106 (.cons (Mem.le.refl _) (.cons (Mem.le.refl _) (.cons (Mem.no_le _) (.cons (Mem.le.refl _) (.cons (Mem.no_le _) (Sub.nil _)))))))) (v := .int .i64 (w64 ((band .i64 (shr .i64 t_21 12) 63) - (band .i64 (shr .i64 t_69 4) 15)))) (fun w hS => r_arith (r := w64 ((band .i64 (shr .i64 t_21 12) 63) - (band .i64 (shr .i64 t_69 4) 15))) hm rfl rfl (.inr (.inl ⟨rfl, rfl⟩))) ?_
          clear hm a; intro a hm
          refine h_take 11 [true, true, true, true, true, true, true, true, true, true, true, true, false, false, false, false].toArray rfl (by kernel_rfl) (by kernel_rfl) (by kernel_rfl) (fun _ _ _ _ h => h) rfl rfl rfl rfl hm (hS.sub (.cons le_106 (.cons (Mem.le.refl _) (.cons (Mem.le.refl _) (.cons (Mem.no_le _) (.cons (Mem.le.refl _) (.cons (Mem.no_le _) (Sub.nil _)))))))) (v := .int .i64 (mx (w64 ((band .i64 (shr .i64 t_21 12) 63) - (band .i64 (shr .i64 t_69 4) 15))) 0)) (fun w hS => r_max hm rfl rfl) ?_
          clear hm a; intro a hm
          refine h_event 12 [true, true, true, true, true, true, true, true, true, true, true, true, true, false, false, false].toArray rfl (by kernel_rfl) rfl ?_
          have hq_111 : Reps (Kd.int .i64) Mem.no ([mx (w64 ((band .i64 (shr .i64 t_21 12) 63) - (band .i64 (shr .i64 t_69 4) 15))) 0] : List Int) _ := ((Reps.one (d := (Kd.int .i64)) (x := mx (w64 ((band .i64 (shr .i64 t_21 12) 63) - (band .i64 (shr .i64 t_69 4) 15))) 0) (show (Kd.int .i64).K _ _ [.int .i64 (mx (w64 ((band .i64 (shr .i64 t_21 12) 63) - (band .i64 (shr .i64 t_69 4) 15))) 0)] from rfl)).append (Reps.nil (Kd.int .i64) _))
          refine s_buildSlice hm rfl Try.underlying23 ti3 rfl rfl rfl (.cons rfl .nil) rfl rfl rfl hS hq_111 rfl ?_
          intro w_107 v_108 M_109 hS' ho_110
          clear hm a; intro a hm
          replace hS : Sep w0 w_107 [N_106, Mem.one g_2 (.cells ([p0_0] : List Value).toArray 23 (0, 0)), Mem.one g_4 (.cells ([.int .i64 0, .int .i64 0, .int .i64 0, .int .i64 0, .int .i64 0, .int .i64 0, .bool false, .int .i64 0, .int .i64 0, .int .i64 0, .int .i64 0, .slice none 0 0, .int .i64 0, .int .i64 0, .slice none 0 0, .slice none 0 0, .int .i64 0, .int .i64 0, .int .i64 0, .int .i64 0, .int .i64 0, .slice none 0 0, .slice none 0 0, .slice none 0 0] : List Value).toArray 29 (0, 0)), Mem.one g_26 (.cells ([.int .i64 7, .int .i64 (band .i64 t_5 3), .int .i64 (band .i64 (shr .i64 t_9 2) 3), .int .i64 (band .i64 (shr .i64 t_13 4) 255), .int .i64 0, .int .i64 0, .bool false, .int .i64 0, .int .i64 0, .int .i64 0, .int .i64 0, .slice none 0 0, .int .i64 (band .i64 t_17 4095), .int .i64 (band .i64 (shr .i64 t_21 12) 63), v_33, v_56, .int .i64 0, .int .i64 0, .int .i64 0, .int .i64 0, .int .i64 0, .slice none 0 0, .slice none 0 0, .slice none 0 0] : List Value).toArray 29 (0, 0)), M_31, M_54, M_109] Z := hS'
          clear hS' hq_111
          refine wpList_nil ?_
          refine x_then_n ⟨(hS.sub (.cons le_106 (.cons (Mem.le.refl _) (.cons (Mem.le.refl _) (.cons (Mem.no_le _) (.cons (Mem.le.refl _) (.cons (Mem.no_le _) (Sub.nil _)))))))), ?_⟩
          refine h_event 13 [true, true, true, true, true, true, true, true, true, true, true, true, true, true, false, false].toArray rfl (by kernel_rfl) rfl ?_
          refine s_append (J := Mem.no) (I' := Mem.no) (p := 5) 17592186044416 hm rfl rfl rfl Try.underlying23 ti3 rfl rfl rfl rfl hS rfl ho_57 (Src.flat (flat_int .i64) (ho_110.src (hS.own 6))) (Mem.le.refl _) (Mem.le.refl _) et_79 ?_
          intro w_114 v_115 M_116 hS' ho_117
          clear hm a; intro a hm
          replace hS : Sep w0 w_114 [N_106, Mem.one g_2 (.cells ([p0_0] : List Value).toArray 23 (0, 0)), Mem.one g_4 (.cells ([.int .i64 0, .int .i64 0, .int .i64 0, .int .i64 0, .int .i64 0, .int .i64 0, .bool false, .int .i64 0, .int .i64 0, .int .i64 0, .int .i64 0, .slice none 0 0, .int .i64 0, .int .i64 0, .slice none 0 0, .slice none 0 0, .int .i64 0, .int .i64 0, .int .i64 0, .int .i64 0, .int .i64 0, .slice none 0 0, .slice none 0 0, .slice none 0 0] : List Value).toArray 29 (0, 0)), Mem.one g_26 (.cells ([.int .i64 7, .int .i64 (band .i64 t_5 3), .int .i64 (band .i64 (shr .i64 t_9 2) 3), .int .i64 (band .i64 (shr .i64 t_13 4) 255), .int .i64 0, .int .i64 0, .bool false, .int .i64 0, .int .i64 0, .int .i64 0, .int .i64 0, .slice none 0 0, .int .i64 (band .i64 t_17 4095), .int .i64 (band .i64 (shr .i64 t_21 12) 63), v_33, v_56, .int .i64 0, .int .i64 0, .int .i64 0, .int .i64 0, .int .i64 0, .slice none 0 0, .slice none 0 0, .slice none 0 0] : List Value).toArray 29 (0, 0)), M_31, M_116, M_109] Z := hS'
          clear hS'
          refine wpList_nil ?_
          refine x_then_n ⟨(hS.sub (.cons le_106 (.cons (Mem.le.refl _) (.cons (Mem.le.refl _) (.cons (Mem.no_le _) (.cons (Mem.le.refl _) (.cons (Mem.no_le _) (Sub.nil _)))))))), ?_⟩
          refine h_take 14 [true, true, true, true, true, true, true, true, true, true, true, true, true, true, true, false].toArray rfl (by kernel_rfl) (by kernel_rfl) (by kernel_rfl) (fun _ _ _ _ h => h) rfl rfl rfl rfl hm (hS.sub (.cons le_106 (.cons (Mem.le.refl _) (.cons (Mem.le.refl _) (.cons (Mem.no_le _) (.cons (Mem.le.refl _) (.cons (Mem.no_le _) (Sub.nil _)))))))) (v := .pointer (some ⟨g_26, 15, none⟩)) (fun w hS => r_fieldAddr hm Try.underlying29 rfl ti23 rfl rfl rfl) ?_
          clear hm a; intro a hm
          refine h_event 15 [true, true, true, true, true, true, true, true, true, true, true, true, true, true, true, true].toArray rfl (by kernel_rfl) rfl ?_
          obtain ⟨w_119, hs', hS'⟩ := hS.store (P := Try.prog) (p := 3) (o := 15) (t := 23) (v := v_115) (vs := [v_115]) rfl ti23 ho_117.cellsA rfl rfl (by intro u hu; simp only [List.mem_cons, List.not_mem_nil, or_false] at hu; rcases hu with rfl <;> first | rfl | exact ho_117.one)
          refine s_store hm rfl rfl hs' ?_
          replace hS : Sep w0 w_119 [N_106, Mem.one g_2 (.cells ([p0_0] : List Value).toArray 23 (0, 0)), Mem.one g_4 (.cells ([.int .i64 0, .int .i64 0, .int .i64 0, .int .i64 0, .int .i64 0, .int .i64 0, .bool false, .int .i64 0, .int .i64 0, .int .i64 0, .int .i64 0, .slice none 0 0, .int .i64 0, .int .i64 0, .slice none 0 0, .slice none 0 0, .int .i64 0, .int .i64 0, .int .i64 0, .int .i64 0, .int .i64 0, .slice none 0 0, .slice none 0 0, .slice none 0 0] : List Value).toArray 29 (0, 0)), Mem.one g_26 (.cells ([.int .i64 7, .int .i64 (band .i64 t_5 3), .int .i64 (band .i64 (shr .i64 t_9 2) 3), .int .i64 (band .i64 (shr .i64 t_13 4) 255), .int .i64 0, .int .i64 0, .bool false, .int .i64 0, .int .i64 0, .int .i64 0, .int .i64 0, .slice none 0 0, .int .i64 (band .i64 t_17 4095), .int .i64 (band .i64 (shr .i64 t_21 12) 63), v_33, v_115, .int .i64 0, .int .i64 0, .int .i64 0, .int .i64 0, .int .i64 0, .slice none 0 0, .slice none 0 0, .slice none 0 0] : List Value).toArray 29 (0, 0)), M_31, M_116, M_109] Z := hS'
          clear hs' hS'
          refine wpList_nil ?_
          refine x_then_n ⟨(hS.sub (.cons le_106 (.cons (Mem.le.refl _) (.cons (Mem.le.refl _) (.cons (Mem.no_le _) (.cons (Mem.le.refl _) (.cons (Mem.no_le _) (Sub.nil _)))))))), ?_⟩
          refine h_done (by kernel_rfl) ?_
          replace hm : Fr 72 a [(2, .pointer (some ⟨g_4, 0, none⟩)), (3, .func (.func 65) #[] [.pointer (some ⟨g_2, 0, none⟩)].toArray), (4, .pointer (some ⟨g_26, 0, none⟩)), (6, .int .i64 x_52)] := hm.keep [2, 3, 4, 6]
          refine x_block_n ?_
          refine x_then_n (hKJ_67 _ _ ?_)
          refine wp_region_lit ?_
          refine s_move hm rfl rfl ?_
          clear hm a; intro a hm
          refine s_arith (r := w64 (x_52 + 1)) hm rfl rfl rfl (.inl ⟨rfl, rfl⟩) ?_
          clear hm a; intro a hm
          refine s_assign hm rfl rfl ?_
          clear hm a; intro a hm
          refine wpList_nil ?_
          replace hm : Fr 72 a [(2, .pointer (some ⟨g_4, 0, none⟩)), (3, .func (.func 65) #[] [.pointer (some ⟨g_2, 0, none⟩)].toArray), (4, .pointer (some ⟨g_26, 0, none⟩)), (6, .int .i64 (w64 (x_52 + 1)))] := hm.keep [2, 3, 4, 6]
          refine x_then_n (hKL_58 _ _ ?_)
          replace hS : Sep w0 w_119 [N_106, Mem.one g_2 (.cells ([p0_0] : List Value).toArray 23 (0, 0)), Mem.one g_4 (.cells ([.int .i64 0, .int .i64 0, .int .i64 0, .int .i64 0, .int .i64 0, .int .i64 0, .bool false, .int .i64 0, .int .i64 0, .int .i64 0, .int .i64 0, .slice none 0 0, .int .i64 0, .int .i64 0, .slice none 0 0, .slice none 0 0, .int .i64 0, .int .i64 0, .int .i64 0, .int .i64 0, .int .i64 0, .slice none 0 0, .slice none 0 0, .slice none 0 0] : List Value).toArray 29 (0, 0)), Mem.one g_26 (.cells ([.int .i64 7, .int .i64 (band .i64 t_5 3), .int .i64 (band .i64 (shr .i64 t_9 2) 3), .int .i64 (band .i64 (shr .i64 t_13 4) 255), .int .i64 0, .int .i64 0, .bool false, .int .i64 0, .int .i64 0, .int .i64 0, .int .i64 0, .slice none 0 0, .int .i64 (band .i64 t_17 4095), .int .i64 (band .i64 (shr .i64 t_21 12) 63), v_33, v_115, .int .i64 0, .int .i64 0, .int .i64 0, .int .i64 0, .int .i64 0, .slice none 0 0, .slice none 0 0, .slice none 0 0] : List Value).toArray 29 (0, 0)), M_31, M_116, M_109] Z := hS
          replace hm : Fr 72 a [(2, .pointer (some ⟨g_4, 0, none⟩)), (3, .func (.func 65) #[] [.pointer (some ⟨g_2, 0, none⟩)].toArray), (4, .pointer (some ⟨g_26, 0, none⟩)), (6, .int .i64 (w64 (x_52 + 1)))] := hm.keep [2, 3, 4, 6]
          exact ⟨w64 (x_52 + 1), t_79, v_115, N_106, M_116, H, hm, (Sep.sel hS [0, 1, 2, 3, 4, 5] (by decide)), (le_51.trans (le_65.trans le_106)), ho_117⟩
        · refine ⟨_, [true, false, true, true, true, true, true, true, false, false, false, false, false, false, false, false].toArray, rfl, rfl, ?_⟩
          refine s_callv hm rfl rfl Try.call65 rfl (hocketlaw17_Token_1.calls (w64 (x_52 + 3)) _ x0 _ t_69 w0 _ _ _ (Mem.le.refl _) (hS.enter [0] (by decide)) (hp0_0.mono (hA.trans (hS.le_zed [0]))) et_69) ?_
          rintro _ w_121 ⟨N_122, rfl, hS'⟩
          clear hm a; intro a hm
          obtain ⟨N_123, hS'', le_123, ln_123⟩ := hS.call [0] (by decide) rfl (l' := [Mem.one g_2 (.cells ([p0_0] : List Value).toArray 23 (0, 0))]) (ow := []) rfl hS'
          replace hS : Sep w0 w_121 [N_123, Mem.one g_2 (.cells ([p0_0] : List Value).toArray 23 (0, 0)), Mem.one g_4 (.cells ([.int .i64 0, .int .i64 0, .int .i64 0, .int .i64 0, .int .i64 0, .int .i64 0, .bool false, .int .i64 0, .int .i64 0, .int .i64 0, .int .i64 0, .slice none 0 0, .int .i64 0, .int .i64 0, .slice none 0 0, .slice none 0 0, .int .i64 0, .int .i64 0, .int .i64 0, .int .i64 0, .int .i64 0, .slice none 0 0, .slice none 0 0, .slice none 0 0] : List Value).toArray 29 (0, 0)), Mem.one g_26 (.cells ([.int .i64 7, .int .i64 (band .i64 t_5 3), .int .i64 (band .i64 (shr .i64 t_9 2) 3), .int .i64 (band .i64 (shr .i64 t_13 4) 255), .int .i64 0, .int .i64 0, .bool false, .int .i64 0, .int .i64 0, .int .i64 0, .int .i64 0, .slice none 0 0, .int .i64 (band .i64 t_17 4095), .int .i64 (band .i64 (shr .i64 t_21 12) 63), v_33, v_56, .int .i64 0, .int .i64 0, .int .i64 0, .int .i64 0, .int .i64 0, .slice none 0 0, .slice none 0 0, .slice none 0 0] : List Value).toArray 29 (0, 0)), M_31, M_54] Z := hS''
          clear hS' hS''
          refine wpList_nil ?_
          refine x_then_n ⟨(hS.sub (.cons le_123 (.cons (Mem.le.refl _) (.cons (Mem.le.refl _) (.cons (Mem.no_le _) (.cons (Mem.le.refl _) (.cons (Mem.no_le _) (Sub.nil _)))))))), ?_⟩
          refine h_take 8 [true, false, true, true, true, true, true, true, true, false, false, false, false, false, false, false].toArray rfl (by kernel_rfl) (by kernel_rfl) (by kernel_rfl) (fun _ _ _ _ h => h) rfl rfl rfl rfl hm (hS.sub (.cons le_123 (.cons (Mem.le.refl _) (.cons (Mem.le.refl _) (.cons (Mem.no_le _) (.cons (Mem.le.refl _) (.cons (Mem.no_le _) (Sub.nil _)))))))) (v := .int .i64 (shr .i64 t_69 4)) (fun w hS => r_shift (r := shr .i64 t_69 4) hm rfl rfl (by decide) (.inr ⟨rfl, rfl⟩)) ?_
          clear hm a; intro a hm
          refine h_take 9 [true, false, true, true, true, true, true, true, true, true, false, false, false, false, false, false].toArray rfl (by kernel_rfl) (by kernel_rfl) (by kernel_rfl) (fun _ _ _ _ h => h) rfl rfl rfl rfl hm (hS.sub (.cons le_123 (.cons (Mem.le.refl _) (.cons (Mem.le.refl _) (.cons (Mem.no_le _) (.cons (Mem.le.refl _) (.cons (Mem.no_le _) (Sub.nil _)))))))) (v := .int .i64 (band .i64 (shr .i64 t_69 4) 15)) (fun w hS => r_bits (i := shr .i64 t_69 4) (j := 15) (r := band .i64 (shr .i64 t_69 4) 15) hm rfl rfl (.inl ⟨rfl, rfl⟩)) ?_
          clear hm a; intro a hm
          refine h_take 10 [true, false, true, true, true, true, true, true, true, true, true, false, false, false, false, false].toArray rfl (by kernel_rfl) (by kernel_rfl) (by kernel_rfl) (fun _ _ _ _ h => h) rfl rfl rfl rfl hm (hS.sub (.cons le_123 (.cons (Mem.le.refl _) (.cons (Mem.le.refl _) (.cons (Mem.no_le _) (.cons (Mem.le.refl _) (.cons (Mem.no_le _) (Sub.nil _)))))))) (v := .int .i64 (w64 ((band .i64 (shr .i64 t_21 12) 63) - (band .i64 (shr .i64 t_69 4) 15)))) (fun w hS => r_arith (r := w64 ((band .i64 (shr .i64 t_21 12) 63) - (band .i64 (shr .i64 t_69 4) 15))) hm rfl rfl (.inr (.inl ⟨rfl, rfl⟩))) ?_
          clear hm a; intro a hm
          refine h_take 11 [true, false, true, true, true, true, true, true, true, true, true, true, false, false, false, false].toArray rfl (by kernel_rfl) (by kernel_rfl) (by kernel_rfl) (fun _ _ _ _ h => h) rfl rfl rfl rfl hm (hS.sub (.cons le_123 (.cons (Mem.le.refl _) (.cons (Mem.le.refl _) (.cons (Mem.no_le _) (.cons (Mem.le.refl _) (.cons (Mem.no_le _) (Sub.nil _)))))))) (v := .int .i64 (mx (w64 ((band .i64 (shr .i64 t_21 12) 63) - (band .i64 (shr .i64 t_69 4) 15))) 0)) (fun w hS => r_max hm rfl rfl) ?_
          clear hm a; intro a hm
          refine h_events [1, 12] (by kernel_rfl) (by simp) ?_
          intro i hi; simp only [List.mem_cons, List.not_mem_nil, or_false] at hi; rcases hi with rfl | rfl
          · refine ⟨_, [true, true, true, true, true, true, true, true, true, true, true, true, false, false, false, false].toArray, rfl, rfl, ?_⟩
            refine s_load hm rfl rfl (hS.load_one (p := 3) rfl Try.underlying23 rfl rfl) ?_
            clear hm a; intro a hm
            refine wpList_nil ?_
            refine x_then_n ⟨(hS.sub (.cons le_123 (.cons (Mem.le.refl _) (.cons (Mem.le.refl _) (.cons (Mem.no_le _) (.cons (Mem.le.refl _) (.cons (Mem.no_le _) (Sub.nil _)))))))), ?_⟩
            refine h_event 12 [true, true, true, true, true, true, true, true, true, true, true, true, true, false, false, false].toArray rfl (by kernel_rfl) rfl ?_
            have hq_128 : Reps (Kd.int .i64) Mem.no ([mx (w64 ((band .i64 (shr .i64 t_21 12) 63) - (band .i64 (shr .i64 t_69 4) 15))) 0] : List Int) _ := ((Reps.one (d := (Kd.int .i64)) (x := mx (w64 ((band .i64 (shr .i64 t_21 12) 63) - (band .i64 (shr .i64 t_69 4) 15))) 0) (show (Kd.int .i64).K _ _ [.int .i64 (mx (w64 ((band .i64 (shr .i64 t_21 12) 63) - (band .i64 (shr .i64 t_69 4) 15))) 0)] from rfl)).append (Reps.nil (Kd.int .i64) _))
            refine s_buildSlice hm rfl Try.underlying23 ti3 rfl rfl rfl (.cons rfl .nil) rfl rfl rfl hS hq_128 rfl ?_
            intro w_124 v_125 M_126 hS' ho_127
            clear hm a; intro a hm
            replace hS : Sep w0 w_124 [N_123, Mem.one g_2 (.cells ([p0_0] : List Value).toArray 23 (0, 0)), Mem.one g_4 (.cells ([.int .i64 0, .int .i64 0, .int .i64 0, .int .i64 0, .int .i64 0, .int .i64 0, .bool false, .int .i64 0, .int .i64 0, .int .i64 0, .int .i64 0, .slice none 0 0, .int .i64 0, .int .i64 0, .slice none 0 0, .slice none 0 0, .int .i64 0, .int .i64 0, .int .i64 0, .int .i64 0, .int .i64 0, .slice none 0 0, .slice none 0 0, .slice none 0 0] : List Value).toArray 29 (0, 0)), Mem.one g_26 (.cells ([.int .i64 7, .int .i64 (band .i64 t_5 3), .int .i64 (band .i64 (shr .i64 t_9 2) 3), .int .i64 (band .i64 (shr .i64 t_13 4) 255), .int .i64 0, .int .i64 0, .bool false, .int .i64 0, .int .i64 0, .int .i64 0, .int .i64 0, .slice none 0 0, .int .i64 (band .i64 t_17 4095), .int .i64 (band .i64 (shr .i64 t_21 12) 63), v_33, v_56, .int .i64 0, .int .i64 0, .int .i64 0, .int .i64 0, .int .i64 0, .slice none 0 0, .slice none 0 0, .slice none 0 0] : List Value).toArray 29 (0, 0)), M_31, M_54, M_126] Z := hS'
            clear hS' hq_128
            refine wpList_nil ?_
            refine x_then_n ⟨(hS.sub (.cons le_123 (.cons (Mem.le.refl _) (.cons (Mem.le.refl _) (.cons (Mem.no_le _) (.cons (Mem.le.refl _) (.cons (Mem.no_le _) (Sub.nil _)))))))), ?_⟩
            refine h_event 13 [true, true, true, true, true, true, true, true, true, true, true, true, true, true, false, false].toArray rfl (by kernel_rfl) rfl ?_
            refine s_append (J := Mem.no) (I' := Mem.no) (p := 5) 17592186044416 hm rfl rfl rfl Try.underlying23 ti3 rfl rfl rfl rfl hS rfl ho_57 (Src.flat (flat_int .i64) (ho_127.src (hS.own 6))) (Mem.le.refl _) (Mem.le.refl _) et_79 ?_
            intro w_131 v_132 M_133 hS' ho_134
            clear hm a; intro a hm
            replace hS : Sep w0 w_131 [N_123, Mem.one g_2 (.cells ([p0_0] : List Value).toArray 23 (0, 0)), Mem.one g_4 (.cells ([.int .i64 0, .int .i64 0, .int .i64 0, .int .i64 0, .int .i64 0, .int .i64 0, .bool false, .int .i64 0, .int .i64 0, .int .i64 0, .int .i64 0, .slice none 0 0, .int .i64 0, .int .i64 0, .slice none 0 0, .slice none 0 0, .int .i64 0, .int .i64 0, .int .i64 0, .int .i64 0, .int .i64 0, .slice none 0 0, .slice none 0 0, .slice none 0 0] : List Value).toArray 29 (0, 0)), Mem.one g_26 (.cells ([.int .i64 7, .int .i64 (band .i64 t_5 3), .int .i64 (band .i64 (shr .i64 t_9 2) 3), .int .i64 (band .i64 (shr .i64 t_13 4) 255), .int .i64 0, .int .i64 0, .bool false, .int .i64 0, .int .i64 0, .int .i64 0, .int .i64 0, .slice none 0 0, .int .i64 (band .i64 t_17 4095), .int .i64 (band .i64 (shr .i64 t_21 12) 63), v_33, v_56, .int .i64 0, .int .i64 0, .int .i64 0, .int .i64 0, .int .i64 0, .slice none 0 0, .slice none 0 0, .slice none 0 0] : List Value).toArray 29 (0, 0)), M_31, M_133, M_126] Z := hS'
            clear hS'
            refine wpList_nil ?_
            refine x_then_n ⟨(hS.sub (.cons le_123 (.cons (Mem.le.refl _) (.cons (Mem.le.refl _) (.cons (Mem.no_le _) (.cons (Mem.le.refl _) (.cons (Mem.no_le _) (Sub.nil _)))))))), ?_⟩
            refine h_take 14 [true, true, true, true, true, true, true, true, true, true, true, true, true, true, true, false].toArray rfl (by kernel_rfl) (by kernel_rfl) (by kernel_rfl) (fun _ _ _ _ h => h) rfl rfl rfl rfl hm (hS.sub (.cons le_123 (.cons (Mem.le.refl _) (.cons (Mem.le.refl _) (.cons (Mem.no_le _) (.cons (Mem.le.refl _) (.cons (Mem.no_le _) (Sub.nil _)))))))) (v := .pointer (some ⟨g_26, 15, none⟩)) (fun w hS => r_fieldAddr hm Try.underlying29 rfl ti23 rfl rfl rfl) ?_
            clear hm a; intro a hm
            refine h_event 15 [true, true, true, true, true, true, true, true, true, true, true, true, true, true, true, true].toArray rfl (by kernel_rfl) rfl ?_
            obtain ⟨w_136, hs', hS'⟩ := hS.store (P := Try.prog) (p := 3) (o := 15) (t := 23) (v := v_132) (vs := [v_132]) rfl ti23 ho_134.cellsA rfl rfl (by intro u hu; simp only [List.mem_cons, List.not_mem_nil, or_false] at hu; rcases hu with rfl <;> first | rfl | exact ho_134.one)
            refine s_store hm rfl rfl hs' ?_
            replace hS : Sep w0 w_136 [N_123, Mem.one g_2 (.cells ([p0_0] : List Value).toArray 23 (0, 0)), Mem.one g_4 (.cells ([.int .i64 0, .int .i64 0, .int .i64 0, .int .i64 0, .int .i64 0, .int .i64 0, .bool false, .int .i64 0, .int .i64 0, .int .i64 0, .int .i64 0, .slice none 0 0, .int .i64 0, .int .i64 0, .slice none 0 0, .slice none 0 0, .int .i64 0, .int .i64 0, .int .i64 0, .int .i64 0, .int .i64 0, .slice none 0 0, .slice none 0 0, .slice none 0 0] : List Value).toArray 29 (0, 0)), Mem.one g_26 (.cells ([.int .i64 7, .int .i64 (band .i64 t_5 3), .int .i64 (band .i64 (shr .i64 t_9 2) 3), .int .i64 (band .i64 (shr .i64 t_13 4) 255), .int .i64 0, .int .i64 0, .bool false, .int .i64 0, .int .i64 0, .int .i64 0, .int .i64 0, .slice none 0 0, .int .i64 (band .i64 t_17 4095), .int .i64 (band .i64 (shr .i64 t_21 12) 63), v_33, v_132, .int .i64 0, .int .i64 0, .int .i64 0, .int .i64 0, .int .i64 0, .slice none 0 0, .slice none 0 0, .slice none 0 0] : List Value).toArray 29 (0, 0)), M_31, M_133, M_126] Z := hS'
            clear hs' hS'
            refine wpList_nil ?_
            refine x_then_n ⟨(hS.sub (.cons le_123 (.cons (Mem.le.refl _) (.cons (Mem.le.refl _) (.cons (Mem.no_le _) (.cons (Mem.le.refl _) (.cons (Mem.no_le _) (Sub.nil _)))))))), ?_⟩
            refine h_done (by kernel_rfl) ?_
            replace hm : Fr 72 a [(2, .pointer (some ⟨g_4, 0, none⟩)), (3, .func (.func 65) #[] [.pointer (some ⟨g_2, 0, none⟩)].toArray), (4, .pointer (some ⟨g_26, 0, none⟩)), (6, .int .i64 x_52)] := hm.keep [2, 3, 4, 6]
            refine x_block_n ?_
            refine x_then_n (hKJ_67 _ _ ?_)
            refine wp_region_lit ?_
            refine s_move hm rfl rfl ?_
            clear hm a; intro a hm
            refine s_arith (r := w64 (x_52 + 1)) hm rfl rfl rfl (.inl ⟨rfl, rfl⟩) ?_
            clear hm a; intro a hm
            refine s_assign hm rfl rfl ?_
            clear hm a; intro a hm
            refine wpList_nil ?_
            replace hm : Fr 72 a [(2, .pointer (some ⟨g_4, 0, none⟩)), (3, .func (.func 65) #[] [.pointer (some ⟨g_2, 0, none⟩)].toArray), (4, .pointer (some ⟨g_26, 0, none⟩)), (6, .int .i64 (w64 (x_52 + 1)))] := hm.keep [2, 3, 4, 6]
            refine x_then_n (hKL_58 _ _ ?_)
            replace hS : Sep w0 w_136 [N_123, Mem.one g_2 (.cells ([p0_0] : List Value).toArray 23 (0, 0)), Mem.one g_4 (.cells ([.int .i64 0, .int .i64 0, .int .i64 0, .int .i64 0, .int .i64 0, .int .i64 0, .bool false, .int .i64 0, .int .i64 0, .int .i64 0, .int .i64 0, .slice none 0 0, .int .i64 0, .int .i64 0, .slice none 0 0, .slice none 0 0, .int .i64 0, .int .i64 0, .int .i64 0, .int .i64 0, .int .i64 0, .slice none 0 0, .slice none 0 0, .slice none 0 0] : List Value).toArray 29 (0, 0)), Mem.one g_26 (.cells ([.int .i64 7, .int .i64 (band .i64 t_5 3), .int .i64 (band .i64 (shr .i64 t_9 2) 3), .int .i64 (band .i64 (shr .i64 t_13 4) 255), .int .i64 0, .int .i64 0, .bool false, .int .i64 0, .int .i64 0, .int .i64 0, .int .i64 0, .slice none 0 0, .int .i64 (band .i64 t_17 4095), .int .i64 (band .i64 (shr .i64 t_21 12) 63), v_33, v_132, .int .i64 0, .int .i64 0, .int .i64 0, .int .i64 0, .int .i64 0, .slice none 0 0, .slice none 0 0, .slice none 0 0] : List Value).toArray 29 (0, 0)), M_31, M_133, M_126] Z := hS
            replace hm : Fr 72 a [(2, .pointer (some ⟨g_4, 0, none⟩)), (3, .func (.func 65) #[] [.pointer (some ⟨g_2, 0, none⟩)].toArray), (4, .pointer (some ⟨g_26, 0, none⟩)), (6, .int .i64 (w64 (x_52 + 1)))] := hm.keep [2, 3, 4, 6]
            exact ⟨w64 (x_52 + 1), t_79, v_132, N_123, M_133, H, hm, (Sep.sel hS [0, 1, 2, 3, 4, 5] (by decide)), (le_51.trans (le_65.trans le_123)), ho_134⟩
          · refine ⟨_, [true, false, true, true, true, true, true, true, true, true, true, true, true, false, false, false].toArray, rfl, rfl, ?_⟩
            have hq_141 : Reps (Kd.int .i64) Mem.no ([mx (w64 ((band .i64 (shr .i64 t_21 12) 63) - (band .i64 (shr .i64 t_69 4) 15))) 0] : List Int) _ := ((Reps.one (d := (Kd.int .i64)) (x := mx (w64 ((band .i64 (shr .i64 t_21 12) 63) - (band .i64 (shr .i64 t_69 4) 15))) 0) (show (Kd.int .i64).K _ _ [.int .i64 (mx (w64 ((band .i64 (shr .i64 t_21 12) 63) - (band .i64 (shr .i64 t_69 4) 15))) 0)] from rfl)).append (Reps.nil (Kd.int .i64) _))
            refine s_buildSlice hm rfl Try.underlying23 ti3 rfl rfl rfl (.cons rfl .nil) rfl rfl rfl hS hq_141 rfl ?_
            intro w_137 v_138 M_139 hS' ho_140
            clear hm a; intro a hm
            replace hS : Sep w0 w_137 [N_123, Mem.one g_2 (.cells ([p0_0] : List Value).toArray 23 (0, 0)), Mem.one g_4 (.cells ([.int .i64 0, .int .i64 0, .int .i64 0, .int .i64 0, .int .i64 0, .int .i64 0, .bool false, .int .i64 0, .int .i64 0, .int .i64 0, .int .i64 0, .slice none 0 0, .int .i64 0, .int .i64 0, .slice none 0 0, .slice none 0 0, .int .i64 0, .int .i64 0, .int .i64 0, .int .i64 0, .int .i64 0, .slice none 0 0, .slice none 0 0, .slice none 0 0] : List Value).toArray 29 (0, 0)), Mem.one g_26 (.cells ([.int .i64 7, .int .i64 (band .i64 t_5 3), .int .i64 (band .i64 (shr .i64 t_9 2) 3), .int .i64 (band .i64 (shr .i64 t_13 4) 255), .int .i64 0, .int .i64 0, .bool false, .int .i64 0, .int .i64 0, .int .i64 0, .int .i64 0, .slice none 0 0, .int .i64 (band .i64 t_17 4095), .int .i64 (band .i64 (shr .i64 t_21 12) 63), v_33, v_56, .int .i64 0, .int .i64 0, .int .i64 0, .int .i64 0, .int .i64 0, .slice none 0 0, .slice none 0 0, .slice none 0 0] : List Value).toArray 29 (0, 0)), M_31, M_54, M_139] Z := hS'
            clear hS' hq_141
            refine wpList_nil ?_
            refine x_then_n ⟨(hS.sub (.cons le_123 (.cons (Mem.le.refl _) (.cons (Mem.le.refl _) (.cons (Mem.no_le _) (.cons (Mem.le.refl _) (.cons (Mem.no_le _) (Sub.nil _)))))))), ?_⟩
            refine h_event 1 [true, true, true, true, true, true, true, true, true, true, true, true, true, false, false, false].toArray rfl (by kernel_rfl) rfl ?_
            refine s_load hm rfl rfl (hS.load_one (p := 3) rfl Try.underlying23 rfl rfl) ?_
            clear hm a; intro a hm
            refine wpList_nil ?_
            refine x_then_n ⟨(hS.sub (.cons le_123 (.cons (Mem.le.refl _) (.cons (Mem.le.refl _) (.cons (Mem.no_le _) (.cons (Mem.le.refl _) (.cons (Mem.no_le _) (Sub.nil _)))))))), ?_⟩
            refine h_event 13 [true, true, true, true, true, true, true, true, true, true, true, true, true, true, false, false].toArray rfl (by kernel_rfl) rfl ?_
            refine s_append (J := Mem.no) (I' := Mem.no) (p := 5) 17592186044416 hm rfl rfl rfl Try.underlying23 ti3 rfl rfl rfl rfl hS rfl ho_57 (Src.flat (flat_int .i64) (ho_140.src (hS.own 6))) (Mem.le.refl _) (Mem.le.refl _) et_79 ?_
            intro w_144 v_145 M_146 hS' ho_147
            clear hm a; intro a hm
            replace hS : Sep w0 w_144 [N_123, Mem.one g_2 (.cells ([p0_0] : List Value).toArray 23 (0, 0)), Mem.one g_4 (.cells ([.int .i64 0, .int .i64 0, .int .i64 0, .int .i64 0, .int .i64 0, .int .i64 0, .bool false, .int .i64 0, .int .i64 0, .int .i64 0, .int .i64 0, .slice none 0 0, .int .i64 0, .int .i64 0, .slice none 0 0, .slice none 0 0, .int .i64 0, .int .i64 0, .int .i64 0, .int .i64 0, .int .i64 0, .slice none 0 0, .slice none 0 0, .slice none 0 0] : List Value).toArray 29 (0, 0)), Mem.one g_26 (.cells ([.int .i64 7, .int .i64 (band .i64 t_5 3), .int .i64 (band .i64 (shr .i64 t_9 2) 3), .int .i64 (band .i64 (shr .i64 t_13 4) 255), .int .i64 0, .int .i64 0, .bool false, .int .i64 0, .int .i64 0, .int .i64 0, .int .i64 0, .slice none 0 0, .int .i64 (band .i64 t_17 4095), .int .i64 (band .i64 (shr .i64 t_21 12) 63), v_33, v_56, .int .i64 0, .int .i64 0, .int .i64 0, .int .i64 0, .int .i64 0, .slice none 0 0, .slice none 0 0, .slice none 0 0] : List Value).toArray 29 (0, 0)), M_31, M_146, M_139] Z := hS'
            clear hS'
            refine wpList_nil ?_
            refine x_then_n ⟨(hS.sub (.cons le_123 (.cons (Mem.le.refl _) (.cons (Mem.le.refl _) (.cons (Mem.no_le _) (.cons (Mem.le.refl _) (.cons (Mem.no_le _) (Sub.nil _)))))))), ?_⟩
            refine h_take 14 [true, true, true, true, true, true, true, true, true, true, true, true, true, true, true, false].toArray rfl (by kernel_rfl) (by kernel_rfl) (by kernel_rfl) (fun _ _ _ _ h => h) rfl rfl rfl rfl hm (hS.sub (.cons le_123 (.cons (Mem.le.refl _) (.cons (Mem.le.refl _) (.cons (Mem.no_le _) (.cons (Mem.le.refl _) (.cons (Mem.no_le _) (Sub.nil _)))))))) (v := .pointer (some ⟨g_26, 15, none⟩)) (fun w hS => r_fieldAddr hm Try.underlying29 rfl ti23 rfl rfl rfl) ?_
            clear hm a; intro a hm
            refine h_event 15 [true, true, true, true, true, true, true, true, true, true, true, true, true, true, true, true].toArray rfl (by kernel_rfl) rfl ?_
            obtain ⟨w_149, hs', hS'⟩ := hS.store (P := Try.prog) (p := 3) (o := 15) (t := 23) (v := v_145) (vs := [v_145]) rfl ti23 ho_147.cellsA rfl rfl (by intro u hu; simp only [List.mem_cons, List.not_mem_nil, or_false] at hu; rcases hu with rfl <;> first | rfl | exact ho_147.one)
            refine s_store hm rfl rfl hs' ?_
            replace hS : Sep w0 w_149 [N_123, Mem.one g_2 (.cells ([p0_0] : List Value).toArray 23 (0, 0)), Mem.one g_4 (.cells ([.int .i64 0, .int .i64 0, .int .i64 0, .int .i64 0, .int .i64 0, .int .i64 0, .bool false, .int .i64 0, .int .i64 0, .int .i64 0, .int .i64 0, .slice none 0 0, .int .i64 0, .int .i64 0, .slice none 0 0, .slice none 0 0, .int .i64 0, .int .i64 0, .int .i64 0, .int .i64 0, .int .i64 0, .slice none 0 0, .slice none 0 0, .slice none 0 0] : List Value).toArray 29 (0, 0)), Mem.one g_26 (.cells ([.int .i64 7, .int .i64 (band .i64 t_5 3), .int .i64 (band .i64 (shr .i64 t_9 2) 3), .int .i64 (band .i64 (shr .i64 t_13 4) 255), .int .i64 0, .int .i64 0, .bool false, .int .i64 0, .int .i64 0, .int .i64 0, .int .i64 0, .slice none 0 0, .int .i64 (band .i64 t_17 4095), .int .i64 (band .i64 (shr .i64 t_21 12) 63), v_33, v_145, .int .i64 0, .int .i64 0, .int .i64 0, .int .i64 0, .int .i64 0, .slice none 0 0, .slice none 0 0, .slice none 0 0] : List Value).toArray 29 (0, 0)), M_31, M_146, M_139] Z := hS'
            clear hs' hS'
            refine wpList_nil ?_
            refine x_then_n ⟨(hS.sub (.cons le_123 (.cons (Mem.le.refl _) (.cons (Mem.le.refl _) (.cons (Mem.no_le _) (.cons (Mem.le.refl _) (.cons (Mem.no_le _) (Sub.nil _)))))))), ?_⟩
            refine h_done (by kernel_rfl) ?_
            replace hm : Fr 72 a [(2, .pointer (some ⟨g_4, 0, none⟩)), (3, .func (.func 65) #[] [.pointer (some ⟨g_2, 0, none⟩)].toArray), (4, .pointer (some ⟨g_26, 0, none⟩)), (6, .int .i64 x_52)] := hm.keep [2, 3, 4, 6]
            refine x_block_n ?_
            refine x_then_n (hKJ_67 _ _ ?_)
            refine wp_region_lit ?_
            refine s_move hm rfl rfl ?_
            clear hm a; intro a hm
            refine s_arith (r := w64 (x_52 + 1)) hm rfl rfl rfl (.inl ⟨rfl, rfl⟩) ?_
            clear hm a; intro a hm
            refine s_assign hm rfl rfl ?_
            clear hm a; intro a hm
            refine wpList_nil ?_
            replace hm : Fr 72 a [(2, .pointer (some ⟨g_4, 0, none⟩)), (3, .func (.func 65) #[] [.pointer (some ⟨g_2, 0, none⟩)].toArray), (4, .pointer (some ⟨g_26, 0, none⟩)), (6, .int .i64 (w64 (x_52 + 1)))] := hm.keep [2, 3, 4, 6]
            refine x_then_n (hKL_58 _ _ ?_)
            replace hS : Sep w0 w_149 [N_123, Mem.one g_2 (.cells ([p0_0] : List Value).toArray 23 (0, 0)), Mem.one g_4 (.cells ([.int .i64 0, .int .i64 0, .int .i64 0, .int .i64 0, .int .i64 0, .int .i64 0, .bool false, .int .i64 0, .int .i64 0, .int .i64 0, .int .i64 0, .slice none 0 0, .int .i64 0, .int .i64 0, .slice none 0 0, .slice none 0 0, .int .i64 0, .int .i64 0, .int .i64 0, .int .i64 0, .int .i64 0, .slice none 0 0, .slice none 0 0, .slice none 0 0] : List Value).toArray 29 (0, 0)), Mem.one g_26 (.cells ([.int .i64 7, .int .i64 (band .i64 t_5 3), .int .i64 (band .i64 (shr .i64 t_9 2) 3), .int .i64 (band .i64 (shr .i64 t_13 4) 255), .int .i64 0, .int .i64 0, .bool false, .int .i64 0, .int .i64 0, .int .i64 0, .int .i64 0, .slice none 0 0, .int .i64 (band .i64 t_17 4095), .int .i64 (band .i64 (shr .i64 t_21 12) 63), v_33, v_145, .int .i64 0, .int .i64 0, .int .i64 0, .int .i64 0, .int .i64 0, .slice none 0 0, .slice none 0 0, .slice none 0 0] : List Value).toArray 29 (0, 0)), M_31, M_146, M_139] Z := hS
            replace hm : Fr 72 a [(2, .pointer (some ⟨g_4, 0, none⟩)), (3, .func (.func 65) #[] [.pointer (some ⟨g_2, 0, none⟩)].toArray), (4, .pointer (some ⟨g_26, 0, none⟩)), (6, .int .i64 (w64 (x_52 + 1)))] := hm.keep [2, 3, 4, 6]
            exact ⟨w64 (x_52 + 1), t_79, v_145, N_123, M_146, H, hm, (Sep.sel hS [0, 1, 2, 3, 4, 5] (by decide)), (le_51.trans (le_65.trans le_123)), ho_147⟩
      · refine ⟨_, [true, false, true, false, true, true, true, true, false, false, false, false, false, false, false, false].toArray, rfl, rfl, ?_⟩
        refine s_callv hm rfl rfl Try.call65 rfl (hocketlaw17_Token_1.calls (w64 (x_52 + 3)) _ x0 _ t_69 w0 _ _ _ (Mem.le.refl _) (hS.enter [0] (by decide)) (hp0_0.mono (hA.trans (hS.le_zed [0]))) et_69) ?_
        rintro _ w_151 ⟨N_152, rfl, hS'⟩
        clear hm a; intro a hm
        obtain ⟨N_153, hS'', le_153, ln_153⟩ := hS.call [0] (by decide) rfl (l' := [Mem.one g_2 (.cells ([p0_0] : List Value).toArray 23 (0, 0))]) (ow := []) rfl hS'
        replace hS : Sep w0 w_151 [N_153, Mem.one g_2 (.cells ([p0_0] : List Value).toArray 23 (0, 0)), Mem.one g_4 (.cells ([.int .i64 0, .int .i64 0, .int .i64 0, .int .i64 0, .int .i64 0, .int .i64 0, .bool false, .int .i64 0, .int .i64 0, .int .i64 0, .int .i64 0, .slice none 0 0, .int .i64 0, .int .i64 0, .slice none 0 0, .slice none 0 0, .int .i64 0, .int .i64 0, .int .i64 0, .int .i64 0, .int .i64 0, .slice none 0 0, .slice none 0 0, .slice none 0 0] : List Value).toArray 29 (0, 0)), Mem.one g_26 (.cells ([.int .i64 7, .int .i64 (band .i64 t_5 3), .int .i64 (band .i64 (shr .i64 t_9 2) 3), .int .i64 (band .i64 (shr .i64 t_13 4) 255), .int .i64 0, .int .i64 0, .bool false, .int .i64 0, .int .i64 0, .int .i64 0, .int .i64 0, .slice none 0 0, .int .i64 (band .i64 t_17 4095), .int .i64 (band .i64 (shr .i64 t_21 12) 63), v_33, v_56, .int .i64 0, .int .i64 0, .int .i64 0, .int .i64 0, .int .i64 0, .slice none 0 0, .slice none 0 0, .slice none 0 0] : List Value).toArray 29 (0, 0)), M_31, M_54] Z := hS''
        clear hS' hS''
        refine wpList_nil ?_
        refine x_then_n ⟨(hS.sub (.cons le_153 (.cons (Mem.le.refl _) (.cons (Mem.le.refl _) (.cons (Mem.no_le _) (.cons (Mem.le.refl _) (.cons (Mem.no_le _) (Sub.nil _)))))))), ?_⟩
        refine h_take 8 [true, false, true, false, true, true, true, true, true, false, false, false, false, false, false, false].toArray rfl (by kernel_rfl) (by kernel_rfl) (by kernel_rfl) (fun _ _ _ _ h => h) rfl rfl rfl rfl hm (hS.sub (.cons le_153 (.cons (Mem.le.refl _) (.cons (Mem.le.refl _) (.cons (Mem.no_le _) (.cons (Mem.le.refl _) (.cons (Mem.no_le _) (Sub.nil _)))))))) (v := .int .i64 (shr .i64 t_69 4)) (fun w hS => r_shift (r := shr .i64 t_69 4) hm rfl rfl (by decide) (.inr ⟨rfl, rfl⟩)) ?_
        clear hm a; intro a hm
        refine h_take 9 [true, false, true, false, true, true, true, true, true, true, false, false, false, false, false, false].toArray rfl (by kernel_rfl) (by kernel_rfl) (by kernel_rfl) (fun _ _ _ _ h => h) rfl rfl rfl rfl hm (hS.sub (.cons le_153 (.cons (Mem.le.refl _) (.cons (Mem.le.refl _) (.cons (Mem.no_le _) (.cons (Mem.le.refl _) (.cons (Mem.no_le _) (Sub.nil _)))))))) (v := .int .i64 (band .i64 (shr .i64 t_69 4) 15)) (fun w hS => r_bits (i := shr .i64 t_69 4) (j := 15) (r := band .i64 (shr .i64 t_69 4) 15) hm rfl rfl (.inl ⟨rfl, rfl⟩)) ?_
        clear hm a; intro a hm
        refine h_events [1, 3] (by kernel_rfl) (by simp) ?_
        intro i hi; simp only [List.mem_cons, List.not_mem_nil, or_false] at hi; rcases hi with rfl | rfl
        · refine ⟨_, [true, true, true, false, true, true, true, true, true, true, false, false, false, false, false, false].toArray, rfl, rfl, ?_⟩
          refine s_load hm rfl rfl (hS.load_one (p := 3) rfl Try.underlying23 rfl rfl) ?_
          clear hm a; intro a hm
          refine wpList_nil ?_
          refine x_then_n ⟨(hS.sub (.cons le_153 (.cons (Mem.le.refl _) (.cons (Mem.le.refl _) (.cons (Mem.no_le _) (.cons (Mem.le.refl _) (.cons (Mem.no_le _) (Sub.nil _)))))))), ?_⟩
          refine h_event 3 [true, true, true, true, true, true, true, true, true, true, false, false, false, false, false, false].toArray rfl (by kernel_rfl) rfl ?_
          refine s_load hm rfl rfl (hS.load_one (p := 3) rfl Try.underlying3 rfl rfl) ?_
          clear hm a; intro a hm
          refine wpList_nil ?_
          refine x_then_n ⟨(hS.sub (.cons le_153 (.cons (Mem.le.refl _) (.cons (Mem.le.refl _) (.cons (Mem.no_le _) (.cons (Mem.le.refl _) (.cons (Mem.no_le _) (Sub.nil _)))))))), ?_⟩
          refine h_take 10 [true, true, true, true, true, true, true, true, true, true, true, false, false, false, false, false].toArray rfl (by kernel_rfl) (by kernel_rfl) (by kernel_rfl) (fun _ _ _ _ h => h) rfl rfl rfl rfl hm (hS.sub (.cons le_153 (.cons (Mem.le.refl _) (.cons (Mem.le.refl _) (.cons (Mem.no_le _) (.cons (Mem.le.refl _) (.cons (Mem.no_le _) (Sub.nil _)))))))) (v := .int .i64 (w64 ((band .i64 (shr .i64 t_21 12) 63) - (band .i64 (shr .i64 t_69 4) 15)))) (fun w hS => r_arith (r := w64 ((band .i64 (shr .i64 t_21 12) 63) - (band .i64 (shr .i64 t_69 4) 15))) hm rfl rfl (.inr (.inl ⟨rfl, rfl⟩))) ?_
          clear hm a; intro a hm
          refine h_take 11 [true, true, true, true, true, true, true, true, true, true, true, true, false, false, false, false].toArray rfl (by kernel_rfl) (by kernel_rfl) (by kernel_rfl) (fun _ _ _ _ h => h) rfl rfl rfl rfl hm (hS.sub (.cons le_153 (.cons (Mem.le.refl _) (.cons (Mem.le.refl _) (.cons (Mem.no_le _) (.cons (Mem.le.refl _) (.cons (Mem.no_le _) (Sub.nil _)))))))) (v := .int .i64 (mx (w64 ((band .i64 (shr .i64 t_21 12) 63) - (band .i64 (shr .i64 t_69 4) 15))) 0)) (fun w hS => r_max hm rfl rfl) ?_
          clear hm a; intro a hm
          refine h_event 12 [true, true, true, true, true, true, true, true, true, true, true, true, true, false, false, false].toArray rfl (by kernel_rfl) rfl ?_
          have hq_158 : Reps (Kd.int .i64) Mem.no ([mx (w64 ((band .i64 (shr .i64 t_21 12) 63) - (band .i64 (shr .i64 t_69 4) 15))) 0] : List Int) _ := ((Reps.one (d := (Kd.int .i64)) (x := mx (w64 ((band .i64 (shr .i64 t_21 12) 63) - (band .i64 (shr .i64 t_69 4) 15))) 0) (show (Kd.int .i64).K _ _ [.int .i64 (mx (w64 ((band .i64 (shr .i64 t_21 12) 63) - (band .i64 (shr .i64 t_69 4) 15))) 0)] from rfl)).append (Reps.nil (Kd.int .i64) _))
          refine s_buildSlice hm rfl Try.underlying23 ti3 rfl rfl rfl (.cons rfl .nil) rfl rfl rfl hS hq_158 rfl ?_
          intro w_154 v_155 M_156 hS' ho_157
          clear hm a; intro a hm
          replace hS : Sep w0 w_154 [N_153, Mem.one g_2 (.cells ([p0_0] : List Value).toArray 23 (0, 0)), Mem.one g_4 (.cells ([.int .i64 0, .int .i64 0, .int .i64 0, .int .i64 0, .int .i64 0, .int .i64 0, .bool false, .int .i64 0, .int .i64 0, .int .i64 0, .int .i64 0, .slice none 0 0, .int .i64 0, .int .i64 0, .slice none 0 0, .slice none 0 0, .int .i64 0, .int .i64 0, .int .i64 0, .int .i64 0, .int .i64 0, .slice none 0 0, .slice none 0 0, .slice none 0 0] : List Value).toArray 29 (0, 0)), Mem.one g_26 (.cells ([.int .i64 7, .int .i64 (band .i64 t_5 3), .int .i64 (band .i64 (shr .i64 t_9 2) 3), .int .i64 (band .i64 (shr .i64 t_13 4) 255), .int .i64 0, .int .i64 0, .bool false, .int .i64 0, .int .i64 0, .int .i64 0, .int .i64 0, .slice none 0 0, .int .i64 (band .i64 t_17 4095), .int .i64 (band .i64 (shr .i64 t_21 12) 63), v_33, v_56, .int .i64 0, .int .i64 0, .int .i64 0, .int .i64 0, .int .i64 0, .slice none 0 0, .slice none 0 0, .slice none 0 0] : List Value).toArray 29 (0, 0)), M_31, M_54, M_156] Z := hS'
          clear hS' hq_158
          refine wpList_nil ?_
          refine x_then_n ⟨(hS.sub (.cons le_153 (.cons (Mem.le.refl _) (.cons (Mem.le.refl _) (.cons (Mem.no_le _) (.cons (Mem.le.refl _) (.cons (Mem.no_le _) (Sub.nil _)))))))), ?_⟩
          refine h_event 13 [true, true, true, true, true, true, true, true, true, true, true, true, true, true, false, false].toArray rfl (by kernel_rfl) rfl ?_
          refine s_append (J := Mem.no) (I' := Mem.no) (p := 5) 17592186044416 hm rfl rfl rfl Try.underlying23 ti3 rfl rfl rfl rfl hS rfl ho_57 (Src.flat (flat_int .i64) (ho_157.src (hS.own 6))) (Mem.le.refl _) (Mem.le.refl _) et_79 ?_
          intro w_161 v_162 M_163 hS' ho_164
          clear hm a; intro a hm
          replace hS : Sep w0 w_161 [N_153, Mem.one g_2 (.cells ([p0_0] : List Value).toArray 23 (0, 0)), Mem.one g_4 (.cells ([.int .i64 0, .int .i64 0, .int .i64 0, .int .i64 0, .int .i64 0, .int .i64 0, .bool false, .int .i64 0, .int .i64 0, .int .i64 0, .int .i64 0, .slice none 0 0, .int .i64 0, .int .i64 0, .slice none 0 0, .slice none 0 0, .int .i64 0, .int .i64 0, .int .i64 0, .int .i64 0, .int .i64 0, .slice none 0 0, .slice none 0 0, .slice none 0 0] : List Value).toArray 29 (0, 0)), Mem.one g_26 (.cells ([.int .i64 7, .int .i64 (band .i64 t_5 3), .int .i64 (band .i64 (shr .i64 t_9 2) 3), .int .i64 (band .i64 (shr .i64 t_13 4) 255), .int .i64 0, .int .i64 0, .bool false, .int .i64 0, .int .i64 0, .int .i64 0, .int .i64 0, .slice none 0 0, .int .i64 (band .i64 t_17 4095), .int .i64 (band .i64 (shr .i64 t_21 12) 63), v_33, v_56, .int .i64 0, .int .i64 0, .int .i64 0, .int .i64 0, .int .i64 0, .slice none 0 0, .slice none 0 0, .slice none 0 0] : List Value).toArray 29 (0, 0)), M_31, M_163, M_156] Z := hS'
          clear hS'
          refine wpList_nil ?_
          refine x_then_n ⟨(hS.sub (.cons le_153 (.cons (Mem.le.refl _) (.cons (Mem.le.refl _) (.cons (Mem.no_le _) (.cons (Mem.le.refl _) (.cons (Mem.no_le _) (Sub.nil _)))))))), ?_⟩
          refine h_take 14 [true, true, true, true, true, true, true, true, true, true, true, true, true, true, true, false].toArray rfl (by kernel_rfl) (by kernel_rfl) (by kernel_rfl) (fun _ _ _ _ h => h) rfl rfl rfl rfl hm (hS.sub (.cons le_153 (.cons (Mem.le.refl _) (.cons (Mem.le.refl _) (.cons (Mem.no_le _) (.cons (Mem.le.refl _) (.cons (Mem.no_le _) (Sub.nil _)))))))) (v := .pointer (some ⟨g_26, 15, none⟩)) (fun w hS => r_fieldAddr hm Try.underlying29 rfl ti23 rfl rfl rfl) ?_
          clear hm a; intro a hm
          refine h_event 15 [true, true, true, true, true, true, true, true, true, true, true, true, true, true, true, true].toArray rfl (by kernel_rfl) rfl ?_
          obtain ⟨w_166, hs', hS'⟩ := hS.store (P := Try.prog) (p := 3) (o := 15) (t := 23) (v := v_162) (vs := [v_162]) rfl ti23 ho_164.cellsA rfl rfl (by intro u hu; simp only [List.mem_cons, List.not_mem_nil, or_false] at hu; rcases hu with rfl <;> first | rfl | exact ho_164.one)
          refine s_store hm rfl rfl hs' ?_
          replace hS : Sep w0 w_166 [N_153, Mem.one g_2 (.cells ([p0_0] : List Value).toArray 23 (0, 0)), Mem.one g_4 (.cells ([.int .i64 0, .int .i64 0, .int .i64 0, .int .i64 0, .int .i64 0, .int .i64 0, .bool false, .int .i64 0, .int .i64 0, .int .i64 0, .int .i64 0, .slice none 0 0, .int .i64 0, .int .i64 0, .slice none 0 0, .slice none 0 0, .int .i64 0, .int .i64 0, .int .i64 0, .int .i64 0, .int .i64 0, .slice none 0 0, .slice none 0 0, .slice none 0 0] : List Value).toArray 29 (0, 0)), Mem.one g_26 (.cells ([.int .i64 7, .int .i64 (band .i64 t_5 3), .int .i64 (band .i64 (shr .i64 t_9 2) 3), .int .i64 (band .i64 (shr .i64 t_13 4) 255), .int .i64 0, .int .i64 0, .bool false, .int .i64 0, .int .i64 0, .int .i64 0, .int .i64 0, .slice none 0 0, .int .i64 (band .i64 t_17 4095), .int .i64 (band .i64 (shr .i64 t_21 12) 63), v_33, v_162, .int .i64 0, .int .i64 0, .int .i64 0, .int .i64 0, .int .i64 0, .slice none 0 0, .slice none 0 0, .slice none 0 0] : List Value).toArray 29 (0, 0)), M_31, M_163, M_156] Z := hS'
          clear hs' hS'
          refine wpList_nil ?_
          refine x_then_n ⟨(hS.sub (.cons le_153 (.cons (Mem.le.refl _) (.cons (Mem.le.refl _) (.cons (Mem.no_le _) (.cons (Mem.le.refl _) (.cons (Mem.no_le _) (Sub.nil _)))))))), ?_⟩
          refine h_done (by kernel_rfl) ?_
          replace hm : Fr 72 a [(2, .pointer (some ⟨g_4, 0, none⟩)), (3, .func (.func 65) #[] [.pointer (some ⟨g_2, 0, none⟩)].toArray), (4, .pointer (some ⟨g_26, 0, none⟩)), (6, .int .i64 x_52)] := hm.keep [2, 3, 4, 6]
          refine x_block_n ?_
          refine x_then_n (hKJ_67 _ _ ?_)
          refine wp_region_lit ?_
          refine s_move hm rfl rfl ?_
          clear hm a; intro a hm
          refine s_arith (r := w64 (x_52 + 1)) hm rfl rfl rfl (.inl ⟨rfl, rfl⟩) ?_
          clear hm a; intro a hm
          refine s_assign hm rfl rfl ?_
          clear hm a; intro a hm
          refine wpList_nil ?_
          replace hm : Fr 72 a [(2, .pointer (some ⟨g_4, 0, none⟩)), (3, .func (.func 65) #[] [.pointer (some ⟨g_2, 0, none⟩)].toArray), (4, .pointer (some ⟨g_26, 0, none⟩)), (6, .int .i64 (w64 (x_52 + 1)))] := hm.keep [2, 3, 4, 6]
          refine x_then_n (hKL_58 _ _ ?_)
          replace hS : Sep w0 w_166 [N_153, Mem.one g_2 (.cells ([p0_0] : List Value).toArray 23 (0, 0)), Mem.one g_4 (.cells ([.int .i64 0, .int .i64 0, .int .i64 0, .int .i64 0, .int .i64 0, .int .i64 0, .bool false, .int .i64 0, .int .i64 0, .int .i64 0, .int .i64 0, .slice none 0 0, .int .i64 0, .int .i64 0, .slice none 0 0, .slice none 0 0, .int .i64 0, .int .i64 0, .int .i64 0, .int .i64 0, .int .i64 0, .slice none 0 0, .slice none 0 0, .slice none 0 0] : List Value).toArray 29 (0, 0)), Mem.one g_26 (.cells ([.int .i64 7, .int .i64 (band .i64 t_5 3), .int .i64 (band .i64 (shr .i64 t_9 2) 3), .int .i64 (band .i64 (shr .i64 t_13 4) 255), .int .i64 0, .int .i64 0, .bool false, .int .i64 0, .int .i64 0, .int .i64 0, .int .i64 0, .slice none 0 0, .int .i64 (band .i64 t_17 4095), .int .i64 (band .i64 (shr .i64 t_21 12) 63), v_33, v_162, .int .i64 0, .int .i64 0, .int .i64 0, .int .i64 0, .int .i64 0, .slice none 0 0, .slice none 0 0, .slice none 0 0] : List Value).toArray 29 (0, 0)), M_31, M_163, M_156] Z := hS
          replace hm : Fr 72 a [(2, .pointer (some ⟨g_4, 0, none⟩)), (3, .func (.func 65) #[] [.pointer (some ⟨g_2, 0, none⟩)].toArray), (4, .pointer (some ⟨g_26, 0, none⟩)), (6, .int .i64 (w64 (x_52 + 1)))] := hm.keep [2, 3, 4, 6]
          exact ⟨w64 (x_52 + 1), t_79, v_162, N_153, M_163, H, hm, (Sep.sel hS [0, 1, 2, 3, 4, 5] (by decide)), (le_51.trans (le_65.trans le_153)), ho_164⟩
        · refine ⟨_, [true, false, true, true, true, true, true, true, true, true, false, false, false, false, false, false].toArray, rfl, rfl, ?_⟩
          refine s_load hm rfl rfl (hS.load_one (p := 3) rfl Try.underlying3 rfl rfl) ?_
          clear hm a; intro a hm
          refine wpList_nil ?_
          refine x_then_n ⟨(hS.sub (.cons le_153 (.cons (Mem.le.refl _) (.cons (Mem.le.refl _) (.cons (Mem.no_le _) (.cons (Mem.le.refl _) (.cons (Mem.no_le _) (Sub.nil _)))))))), ?_⟩
          refine h_take 10 [true, false, true, true, true, true, true, true, true, true, true, false, false, false, false, false].toArray rfl (by kernel_rfl) (by kernel_rfl) (by kernel_rfl) (fun _ _ _ _ h => h) rfl rfl rfl rfl hm (hS.sub (.cons le_153 (.cons (Mem.le.refl _) (.cons (Mem.le.refl _) (.cons (Mem.no_le _) (.cons (Mem.le.refl _) (.cons (Mem.no_le _) (Sub.nil _)))))))) (v := .int .i64 (w64 ((band .i64 (shr .i64 t_21 12) 63) - (band .i64 (shr .i64 t_69 4) 15)))) (fun w hS => r_arith (r := w64 ((band .i64 (shr .i64 t_21 12) 63) - (band .i64 (shr .i64 t_69 4) 15))) hm rfl rfl (.inr (.inl ⟨rfl, rfl⟩))) ?_
          clear hm a; intro a hm
          refine h_take 11 [true, false, true, true, true, true, true, true, true, true, true, true, false, false, false, false].toArray rfl (by kernel_rfl) (by kernel_rfl) (by kernel_rfl) (fun _ _ _ _ h => h) rfl rfl rfl rfl hm (hS.sub (.cons le_153 (.cons (Mem.le.refl _) (.cons (Mem.le.refl _) (.cons (Mem.no_le _) (.cons (Mem.le.refl _) (.cons (Mem.no_le _) (Sub.nil _)))))))) (v := .int .i64 (mx (w64 ((band .i64 (shr .i64 t_21 12) 63) - (band .i64 (shr .i64 t_69 4) 15))) 0)) (fun w hS => r_max hm rfl rfl) ?_
          clear hm a; intro a hm
          refine h_events [1, 12] (by kernel_rfl) (by simp) ?_
          intro i hi; simp only [List.mem_cons, List.not_mem_nil, or_false] at hi; rcases hi with rfl | rfl
          · refine ⟨_, [true, true, true, true, true, true, true, true, true, true, true, true, false, false, false, false].toArray, rfl, rfl, ?_⟩
            refine s_load hm rfl rfl (hS.load_one (p := 3) rfl Try.underlying23 rfl rfl) ?_
            clear hm a; intro a hm
            refine wpList_nil ?_
            refine x_then_n ⟨(hS.sub (.cons le_153 (.cons (Mem.le.refl _) (.cons (Mem.le.refl _) (.cons (Mem.no_le _) (.cons (Mem.le.refl _) (.cons (Mem.no_le _) (Sub.nil _)))))))), ?_⟩
            refine h_event 12 [true, true, true, true, true, true, true, true, true, true, true, true, true, false, false, false].toArray rfl (by kernel_rfl) rfl ?_
            have hq_171 : Reps (Kd.int .i64) Mem.no ([mx (w64 ((band .i64 (shr .i64 t_21 12) 63) - (band .i64 (shr .i64 t_69 4) 15))) 0] : List Int) _ := ((Reps.one (d := (Kd.int .i64)) (x := mx (w64 ((band .i64 (shr .i64 t_21 12) 63) - (band .i64 (shr .i64 t_69 4) 15))) 0) (show (Kd.int .i64).K _ _ [.int .i64 (mx (w64 ((band .i64 (shr .i64 t_21 12) 63) - (band .i64 (shr .i64 t_69 4) 15))) 0)] from rfl)).append (Reps.nil (Kd.int .i64) _))
            refine s_buildSlice hm rfl Try.underlying23 ti3 rfl rfl rfl (.cons rfl .nil) rfl rfl rfl hS hq_171 rfl ?_
            intro w_167 v_168 M_169 hS' ho_170
            clear hm a; intro a hm
            replace hS : Sep w0 w_167 [N_153, Mem.one g_2 (.cells ([p0_0] : List Value).toArray 23 (0, 0)), Mem.one g_4 (.cells ([.int .i64 0, .int .i64 0, .int .i64 0, .int .i64 0, .int .i64 0, .int .i64 0, .bool false, .int .i64 0, .int .i64 0, .int .i64 0, .int .i64 0, .slice none 0 0, .int .i64 0, .int .i64 0, .slice none 0 0, .slice none 0 0, .int .i64 0, .int .i64 0, .int .i64 0, .int .i64 0, .int .i64 0, .slice none 0 0, .slice none 0 0, .slice none 0 0] : List Value).toArray 29 (0, 0)), Mem.one g_26 (.cells ([.int .i64 7, .int .i64 (band .i64 t_5 3), .int .i64 (band .i64 (shr .i64 t_9 2) 3), .int .i64 (band .i64 (shr .i64 t_13 4) 255), .int .i64 0, .int .i64 0, .bool false, .int .i64 0, .int .i64 0, .int .i64 0, .int .i64 0, .slice none 0 0, .int .i64 (band .i64 t_17 4095), .int .i64 (band .i64 (shr .i64 t_21 12) 63), v_33, v_56, .int .i64 0, .int .i64 0, .int .i64 0, .int .i64 0, .int .i64 0, .slice none 0 0, .slice none 0 0, .slice none 0 0] : List Value).toArray 29 (0, 0)), M_31, M_54, M_169] Z := hS'
            clear hS' hq_171
            refine wpList_nil ?_
            refine x_then_n ⟨(hS.sub (.cons le_153 (.cons (Mem.le.refl _) (.cons (Mem.le.refl _) (.cons (Mem.no_le _) (.cons (Mem.le.refl _) (.cons (Mem.no_le _) (Sub.nil _)))))))), ?_⟩
            refine h_event 13 [true, true, true, true, true, true, true, true, true, true, true, true, true, true, false, false].toArray rfl (by kernel_rfl) rfl ?_
            refine s_append (J := Mem.no) (I' := Mem.no) (p := 5) 17592186044416 hm rfl rfl rfl Try.underlying23 ti3 rfl rfl rfl rfl hS rfl ho_57 (Src.flat (flat_int .i64) (ho_170.src (hS.own 6))) (Mem.le.refl _) (Mem.le.refl _) et_79 ?_
            intro w_174 v_175 M_176 hS' ho_177
            clear hm a; intro a hm
            replace hS : Sep w0 w_174 [N_153, Mem.one g_2 (.cells ([p0_0] : List Value).toArray 23 (0, 0)), Mem.one g_4 (.cells ([.int .i64 0, .int .i64 0, .int .i64 0, .int .i64 0, .int .i64 0, .int .i64 0, .bool false, .int .i64 0, .int .i64 0, .int .i64 0, .int .i64 0, .slice none 0 0, .int .i64 0, .int .i64 0, .slice none 0 0, .slice none 0 0, .int .i64 0, .int .i64 0, .int .i64 0, .int .i64 0, .int .i64 0, .slice none 0 0, .slice none 0 0, .slice none 0 0] : List Value).toArray 29 (0, 0)), Mem.one g_26 (.cells ([.int .i64 7, .int .i64 (band .i64 t_5 3), .int .i64 (band .i64 (shr .i64 t_9 2) 3), .int .i64 (band .i64 (shr .i64 t_13 4) 255), .int .i64 0, .int .i64 0, .bool false, .int .i64 0, .int .i64 0, .int .i64 0, .int .i64 0, .slice none 0 0, .int .i64 (band .i64 t_17 4095), .int .i64 (band .i64 (shr .i64 t_21 12) 63), v_33, v_56, .int .i64 0, .int .i64 0, .int .i64 0, .int .i64 0, .int .i64 0, .slice none 0 0, .slice none 0 0, .slice none 0 0] : List Value).toArray 29 (0, 0)), M_31, M_176, M_169] Z := hS'
            clear hS'
            refine wpList_nil ?_
            refine x_then_n ⟨(hS.sub (.cons le_153 (.cons (Mem.le.refl _) (.cons (Mem.le.refl _) (.cons (Mem.no_le _) (.cons (Mem.le.refl _) (.cons (Mem.no_le _) (Sub.nil _)))))))), ?_⟩
            refine h_take 14 [true, true, true, true, true, true, true, true, true, true, true, true, true, true, true, false].toArray rfl (by kernel_rfl) (by kernel_rfl) (by kernel_rfl) (fun _ _ _ _ h => h) rfl rfl rfl rfl hm (hS.sub (.cons le_153 (.cons (Mem.le.refl _) (.cons (Mem.le.refl _) (.cons (Mem.no_le _) (.cons (Mem.le.refl _) (.cons (Mem.no_le _) (Sub.nil _)))))))) (v := .pointer (some ⟨g_26, 15, none⟩)) (fun w hS => r_fieldAddr hm Try.underlying29 rfl ti23 rfl rfl rfl) ?_
            clear hm a; intro a hm
            refine h_event 15 [true, true, true, true, true, true, true, true, true, true, true, true, true, true, true, true].toArray rfl (by kernel_rfl) rfl ?_
            obtain ⟨w_179, hs', hS'⟩ := hS.store (P := Try.prog) (p := 3) (o := 15) (t := 23) (v := v_175) (vs := [v_175]) rfl ti23 ho_177.cellsA rfl rfl (by intro u hu; simp only [List.mem_cons, List.not_mem_nil, or_false] at hu; rcases hu with rfl <;> first | rfl | exact ho_177.one)
            refine s_store hm rfl rfl hs' ?_
            replace hS : Sep w0 w_179 [N_153, Mem.one g_2 (.cells ([p0_0] : List Value).toArray 23 (0, 0)), Mem.one g_4 (.cells ([.int .i64 0, .int .i64 0, .int .i64 0, .int .i64 0, .int .i64 0, .int .i64 0, .bool false, .int .i64 0, .int .i64 0, .int .i64 0, .int .i64 0, .slice none 0 0, .int .i64 0, .int .i64 0, .slice none 0 0, .slice none 0 0, .int .i64 0, .int .i64 0, .int .i64 0, .int .i64 0, .int .i64 0, .slice none 0 0, .slice none 0 0, .slice none 0 0] : List Value).toArray 29 (0, 0)), Mem.one g_26 (.cells ([.int .i64 7, .int .i64 (band .i64 t_5 3), .int .i64 (band .i64 (shr .i64 t_9 2) 3), .int .i64 (band .i64 (shr .i64 t_13 4) 255), .int .i64 0, .int .i64 0, .bool false, .int .i64 0, .int .i64 0, .int .i64 0, .int .i64 0, .slice none 0 0, .int .i64 (band .i64 t_17 4095), .int .i64 (band .i64 (shr .i64 t_21 12) 63), v_33, v_175, .int .i64 0, .int .i64 0, .int .i64 0, .int .i64 0, .int .i64 0, .slice none 0 0, .slice none 0 0, .slice none 0 0] : List Value).toArray 29 (0, 0)), M_31, M_176, M_169] Z := hS'
            clear hs' hS'
            refine wpList_nil ?_
            refine x_then_n ⟨(hS.sub (.cons le_153 (.cons (Mem.le.refl _) (.cons (Mem.le.refl _) (.cons (Mem.no_le _) (.cons (Mem.le.refl _) (.cons (Mem.no_le _) (Sub.nil _)))))))), ?_⟩
            refine h_done (by kernel_rfl) ?_
            replace hm : Fr 72 a [(2, .pointer (some ⟨g_4, 0, none⟩)), (3, .func (.func 65) #[] [.pointer (some ⟨g_2, 0, none⟩)].toArray), (4, .pointer (some ⟨g_26, 0, none⟩)), (6, .int .i64 x_52)] := hm.keep [2, 3, 4, 6]
            refine x_block_n ?_
            refine x_then_n (hKJ_67 _ _ ?_)
            refine wp_region_lit ?_
            refine s_move hm rfl rfl ?_
            clear hm a; intro a hm
            refine s_arith (r := w64 (x_52 + 1)) hm rfl rfl rfl (.inl ⟨rfl, rfl⟩) ?_
            clear hm a; intro a hm
            refine s_assign hm rfl rfl ?_
            clear hm a; intro a hm
            refine wpList_nil ?_
            replace hm : Fr 72 a [(2, .pointer (some ⟨g_4, 0, none⟩)), (3, .func (.func 65) #[] [.pointer (some ⟨g_2, 0, none⟩)].toArray), (4, .pointer (some ⟨g_26, 0, none⟩)), (6, .int .i64 (w64 (x_52 + 1)))] := hm.keep [2, 3, 4, 6]
            refine x_then_n (hKL_58 _ _ ?_)
            replace hS : Sep w0 w_179 [N_153, Mem.one g_2 (.cells ([p0_0] : List Value).toArray 23 (0, 0)), Mem.one g_4 (.cells ([.int .i64 0, .int .i64 0, .int .i64 0, .int .i64 0, .int .i64 0, .int .i64 0, .bool false, .int .i64 0, .int .i64 0, .int .i64 0, .int .i64 0, .slice none 0 0, .int .i64 0, .int .i64 0, .slice none 0 0, .slice none 0 0, .int .i64 0, .int .i64 0, .int .i64 0, .int .i64 0, .int .i64 0, .slice none 0 0, .slice none 0 0, .slice none 0 0] : List Value).toArray 29 (0, 0)), Mem.one g_26 (.cells ([.int .i64 7, .int .i64 (band .i64 t_5 3), .int .i64 (band .i64 (shr .i64 t_9 2) 3), .int .i64 (band .i64 (shr .i64 t_13 4) 255), .int .i64 0, .int .i64 0, .bool false, .int .i64 0, .int .i64 0, .int .i64 0, .int .i64 0, .slice none 0 0, .int .i64 (band .i64 t_17 4095), .int .i64 (band .i64 (shr .i64 t_21 12) 63), v_33, v_175, .int .i64 0, .int .i64 0, .int .i64 0, .int .i64 0, .int .i64 0, .slice none 0 0, .slice none 0 0, .slice none 0 0] : List Value).toArray 29 (0, 0)), M_31, M_176, M_169] Z := hS
            replace hm : Fr 72 a [(2, .pointer (some ⟨g_4, 0, none⟩)), (3, .func (.func 65) #[] [.pointer (some ⟨g_2, 0, none⟩)].toArray), (4, .pointer (some ⟨g_26, 0, none⟩)), (6, .int .i64 (w64 (x_52 + 1)))] := hm.keep [2, 3, 4, 6]
            exact ⟨w64 (x_52 + 1), t_79, v_175, N_153, M_176, H, hm, (Sep.sel hS [0, 1, 2, 3, 4, 5] (by decide)), (le_51.trans (le_65.trans le_153)), ho_177⟩
          · refine ⟨_, [true, false, true, true, true, true, true, true, true, true, true, true, true, false, false, false].toArray, rfl, rfl, ?_⟩
            have hq_184 : Reps (Kd.int .i64) Mem.no ([mx (w64 ((band .i64 (shr .i64 t_21 12) 63) - (band .i64 (shr .i64 t_69 4) 15))) 0] : List Int) _ := ((Reps.one (d := (Kd.int .i64)) (x := mx (w64 ((band .i64 (shr .i64 t_21 12) 63) - (band .i64 (shr .i64 t_69 4) 15))) 0) (show (Kd.int .i64).K _ _ [.int .i64 (mx (w64 ((band .i64 (shr .i64 t_21 12) 63) - (band .i64 (shr .i64 t_69 4) 15))) 0)] from rfl)).append (Reps.nil (Kd.int .i64) _))
            refine s_buildSlice hm rfl Try.underlying23 ti3 rfl rfl rfl (.cons rfl .nil) rfl rfl rfl hS hq_184 rfl ?_
            intro w_180 v_181 M_182 hS' ho_183
            clear hm a; intro a hm
            replace hS : Sep w0 w_180 [N_153, Mem.one g_2 (.cells ([p0_0] : List Value).toArray 23 (0, 0)), Mem.one g_4 (.cells ([.int .i64 0, .int .i64 0, .int .i64 0, .int .i64 0, .int .i64 0, .int .i64 0, .bool false, .int .i64 0, .int .i64 0, .int .i64 0, .int .i64 0, .slice none 0 0, .int .i64 0, .int .i64 0, .slice none 0 0, .slice none 0 0, .int .i64 0, .int .i64 0, .int .i64 0, .int .i64 0, .int .i64 0, .slice none 0 0, .slice none 0 0, .slice none 0 0] : List Value).toArray 29 (0, 0)), Mem.one g_26 (.cells ([.int .i64 7, .int .i64 (band .i64 t_5 3), .int .i64 (band .i64 (shr .i64 t_9 2) 3), .int .i64 (band .i64 (shr .i64 t_13 4) 255), .int .i64 0, .int .i64 0, .bool false, .int .i64 0, .int .i64 0, .int .i64 0, .int .i64 0, .slice none 0 0, .int .i64 (band .i64 t_17 4095), .int .i64 (band .i64 (shr .i64 t_21 12) 63), v_33, v_56, .int .i64 0, .int .i64 0, .int .i64 0, .int .i64 0, .int .i64 0, .slice none 0 0, .slice none 0 0, .slice none 0 0] : List Value).toArray 29 (0, 0)), M_31, M_54, M_182] Z := hS'
            clear hS' hq_184
            refine wpList_nil ?_
            refine x_then_n ⟨(hS.sub (.cons le_153 (.cons (Mem.le.refl _) (.cons (Mem.le.refl _) (.cons (Mem.no_le _) (.cons (Mem.le.refl _) (.cons (Mem.no_le _) (Sub.nil _)))))))), ?_⟩
            refine h_event 1 [true, true, true, true, true, true, true, true, true, true, true, true, true, false, false, false].toArray rfl (by kernel_rfl) rfl ?_
            refine s_load hm rfl rfl (hS.load_one (p := 3) rfl Try.underlying23 rfl rfl) ?_
            clear hm a; intro a hm
            refine wpList_nil ?_
            refine x_then_n ⟨(hS.sub (.cons le_153 (.cons (Mem.le.refl _) (.cons (Mem.le.refl _) (.cons (Mem.no_le _) (.cons (Mem.le.refl _) (.cons (Mem.no_le _) (Sub.nil _)))))))), ?_⟩
            refine h_event 13 [true, true, true, true, true, true, true, true, true, true, true, true, true, true, false, false].toArray rfl (by kernel_rfl) rfl ?_
            refine s_append (J := Mem.no) (I' := Mem.no) (p := 5) 17592186044416 hm rfl rfl rfl Try.underlying23 ti3 rfl rfl rfl rfl hS rfl ho_57 (Src.flat (flat_int .i64) (ho_183.src (hS.own 6))) (Mem.le.refl _) (Mem.le.refl _) et_79 ?_
            intro w_187 v_188 M_189 hS' ho_190
            clear hm a; intro a hm
            replace hS : Sep w0 w_187 [N_153, Mem.one g_2 (.cells ([p0_0] : List Value).toArray 23 (0, 0)), Mem.one g_4 (.cells ([.int .i64 0, .int .i64 0, .int .i64 0, .int .i64 0, .int .i64 0, .int .i64 0, .bool false, .int .i64 0, .int .i64 0, .int .i64 0, .int .i64 0, .slice none 0 0, .int .i64 0, .int .i64 0, .slice none 0 0, .slice none 0 0, .int .i64 0, .int .i64 0, .int .i64 0, .int .i64 0, .int .i64 0, .slice none 0 0, .slice none 0 0, .slice none 0 0] : List Value).toArray 29 (0, 0)), Mem.one g_26 (.cells ([.int .i64 7, .int .i64 (band .i64 t_5 3), .int .i64 (band .i64 (shr .i64 t_9 2) 3), .int .i64 (band .i64 (shr .i64 t_13 4) 255), .int .i64 0, .int .i64 0, .bool false, .int .i64 0, .int .i64 0, .int .i64 0, .int .i64 0, .slice none 0 0, .int .i64 (band .i64 t_17 4095), .int .i64 (band .i64 (shr .i64 t_21 12) 63), v_33, v_56, .int .i64 0, .int .i64 0, .int .i64 0, .int .i64 0, .int .i64 0, .slice none 0 0, .slice none 0 0, .slice none 0 0] : List Value).toArray 29 (0, 0)), M_31, M_189, M_182] Z := hS'
            clear hS'
            refine wpList_nil ?_
            refine x_then_n ⟨(hS.sub (.cons le_153 (.cons (Mem.le.refl _) (.cons (Mem.le.refl _) (.cons (Mem.no_le _) (.cons (Mem.le.refl _) (.cons (Mem.no_le _) (Sub.nil _)))))))), ?_⟩
            refine h_take 14 [true, true, true, true, true, true, true, true, true, true, true, true, true, true, true, false].toArray rfl (by kernel_rfl) (by kernel_rfl) (by kernel_rfl) (fun _ _ _ _ h => h) rfl rfl rfl rfl hm (hS.sub (.cons le_153 (.cons (Mem.le.refl _) (.cons (Mem.le.refl _) (.cons (Mem.no_le _) (.cons (Mem.le.refl _) (.cons (Mem.no_le _) (Sub.nil _)))))))) (v := .pointer (some ⟨g_26, 15, none⟩)) (fun w hS => r_fieldAddr hm Try.underlying29 rfl ti23 rfl rfl rfl) ?_
            clear hm a; intro a hm
            refine h_event 15 [true, true, true, true, true, true, true, true, true, true, true, true, true, true, true, true].toArray rfl (by kernel_rfl) rfl ?_
            obtain ⟨w_192, hs', hS'⟩ := hS.store (P := Try.prog) (p := 3) (o := 15) (t := 23) (v := v_188) (vs := [v_188]) rfl ti23 ho_190.cellsA rfl rfl (by intro u hu; simp only [List.mem_cons, List.not_mem_nil, or_false] at hu; rcases hu with rfl <;> first | rfl | exact ho_190.one)
            refine s_store hm rfl rfl hs' ?_
            replace hS : Sep w0 w_192 [N_153, Mem.one g_2 (.cells ([p0_0] : List Value).toArray 23 (0, 0)), Mem.one g_4 (.cells ([.int .i64 0, .int .i64 0, .int .i64 0, .int .i64 0, .int .i64 0, .int .i64 0, .bool false, .int .i64 0, .int .i64 0, .int .i64 0, .int .i64 0, .slice none 0 0, .int .i64 0, .int .i64 0, .slice none 0 0, .slice none 0 0, .int .i64 0, .int .i64 0, .int .i64 0, .int .i64 0, .int .i64 0, .slice none 0 0, .slice none 0 0, .slice none 0 0] : List Value).toArray 29 (0, 0)), Mem.one g_26 (.cells ([.int .i64 7, .int .i64 (band .i64 t_5 3), .int .i64 (band .i64 (shr .i64 t_9 2) 3), .int .i64 (band .i64 (shr .i64 t_13 4) 255), .int .i64 0, .int .i64 0, .bool false, .int .i64 0, .int .i64 0, .int .i64 0, .int .i64 0, .slice none 0 0, .int .i64 (band .i64 t_17 4095), .int .i64 (band .i64 (shr .i64 t_21 12) 63), v_33, v_188, .int .i64 0, .int .i64 0, .int .i64 0, .int .i64 0, .int .i64 0, .slice none 0 0, .slice none 0 0, .slice none 0 0] : List Value).toArray 29 (0, 0)), M_31, M_189, M_182] Z := hS'
            clear hs' hS'
            refine wpList_nil ?_
            refine x_then_n ⟨(hS.sub (.cons le_153 (.cons (Mem.le.refl _) (.cons (Mem.le.refl _) (.cons (Mem.no_le _) (.cons (Mem.le.refl _) (.cons (Mem.no_le _) (Sub.nil _)))))))), ?_⟩
            refine h_done (by kernel_rfl) ?_
            replace hm : Fr 72 a [(2, .pointer (some ⟨g_4, 0, none⟩)), (3, .func (.func 65) #[] [.pointer (some ⟨g_2, 0, none⟩)].toArray), (4, .pointer (some ⟨g_26, 0, none⟩)), (6, .int .i64 x_52)] := hm.keep [2, 3, 4, 6]
            refine x_block_n ?_
            refine x_then_n (hKJ_67 _ _ ?_)
            refine wp_region_lit ?_
            refine s_move hm rfl rfl ?_
            clear hm a; intro a hm
            refine s_arith (r := w64 (x_52 + 1)) hm rfl rfl rfl (.inl ⟨rfl, rfl⟩) ?_
            clear hm a; intro a hm
            refine s_assign hm rfl rfl ?_
            clear hm a; intro a hm
            refine wpList_nil ?_
            replace hm : Fr 72 a [(2, .pointer (some ⟨g_4, 0, none⟩)), (3, .func (.func 65) #[] [.pointer (some ⟨g_2, 0, none⟩)].toArray), (4, .pointer (some ⟨g_26, 0, none⟩)), (6, .int .i64 (w64 (x_52 + 1)))] := hm.keep [2, 3, 4, 6]
            refine x_then_n (hKL_58 _ _ ?_)
            replace hS : Sep w0 w_192 [N_153, Mem.one g_2 (.cells ([p0_0] : List Value).toArray 23 (0, 0)), Mem.one g_4 (.cells ([.int .i64 0, .int .i64 0, .int .i64 0, .int .i64 0, .int .i64 0, .int .i64 0, .bool false, .int .i64 0, .int .i64 0, .int .i64 0, .int .i64 0, .slice none 0 0, .int .i64 0, .int .i64 0, .slice none 0 0, .slice none 0 0, .int .i64 0, .int .i64 0, .int .i64 0, .int .i64 0, .int .i64 0, .slice none 0 0, .slice none 0 0, .slice none 0 0] : List Value).toArray 29 (0, 0)), Mem.one g_26 (.cells ([.int .i64 7, .int .i64 (band .i64 t_5 3), .int .i64 (band .i64 (shr .i64 t_9 2) 3), .int .i64 (band .i64 (shr .i64 t_13 4) 255), .int .i64 0, .int .i64 0, .bool false, .int .i64 0, .int .i64 0, .int .i64 0, .int .i64 0, .slice none 0 0, .int .i64 (band .i64 t_17 4095), .int .i64 (band .i64 (shr .i64 t_21 12) 63), v_33, v_188, .int .i64 0, .int .i64 0, .int .i64 0, .int .i64 0, .int .i64 0, .slice none 0 0, .slice none 0 0, .slice none 0 0] : List Value).toArray 29 (0, 0)), M_31, M_189, M_182] Z := hS
            replace hm : Fr 72 a [(2, .pointer (some ⟨g_4, 0, none⟩)), (3, .func (.func 65) #[] [.pointer (some ⟨g_2, 0, none⟩)].toArray), (4, .pointer (some ⟨g_26, 0, none⟩)), (6, .int .i64 (w64 (x_52 + 1)))] := hm.keep [2, 3, 4, 6]
            exact ⟨w64 (x_52 + 1), t_79, v_188, N_153, M_189, H, hm, (Sep.sel hS [0, 1, 2, 3, 4, 5] (by decide)), (le_51.trans (le_65.trans le_153)), ho_190⟩
    · rw [if_neg hc_66] at H
      refine c_cond_f hm rfl (decide_eq_false hc_66) ?_
      refine wp_exit (x_then_x (x_then_x (x_block_t ?_)))
      replace hS : Sep w0 w_63 [N_65, Mem.one g_2 (.cells ([p0_0] : List Value).toArray 23 (0, 0)), Mem.one g_4 (.cells ([.int .i64 0, .int .i64 0, .int .i64 0, .int .i64 0, .int .i64 0, .int .i64 0, .bool false, .int .i64 0, .int .i64 0, .int .i64 0, .int .i64 0, .slice none 0 0, .int .i64 0, .int .i64 0, .slice none 0 0, .slice none 0 0, .int .i64 0, .int .i64 0, .int .i64 0, .int .i64 0, .int .i64 0, .slice none 0 0, .slice none 0 0, .slice none 0 0] : List Value).toArray 29 (0, 0)), Mem.one g_26 (.cells ([.int .i64 7, .int .i64 (band .i64 t_5 3), .int .i64 (band .i64 (shr .i64 t_9 2) 3), .int .i64 (band .i64 (shr .i64 t_13 4) 255), .int .i64 0, .int .i64 0, .bool false, .int .i64 0, .int .i64 0, .int .i64 0, .int .i64 0, .slice none 0 0, .int .i64 (band .i64 t_17 4095), .int .i64 (band .i64 (shr .i64 t_21 12) 63), v_33, v_56, .int .i64 0, .int .i64 0, .int .i64 0, .int .i64 0, .int .i64 0, .slice none 0 0, .slice none 0 0, .slice none 0 0] : List Value).toArray 29 (0, 0)), M_31, M_54] Z := hS
      replace hm : Fr 72 a [(2, .pointer (some ⟨g_4, 0, none⟩)), (4, .pointer (some ⟨g_26, 0, none⟩))] := hm.keep [2, 4]
      exact x_then_n (hJ_j_45 x_53 H _ _ ⟨v_56, N_65, M_54, hm, (Sep.sel hS [0, 1000, 2, 3, 4, 5] (by decide)), (le_51.trans le_65), ho_57⟩)
  clear hKJ_28
  have hS' := hS.room
  replace hS : Sep w0 w_27 [N_24, Mem.one g_2 (.cells ([p0_0] : List Value).toArray 23 (0, 0)), Mem.one g_4 (.cells ([.int .i64 0, .int .i64 0, .int .i64 0, .int .i64 0, .int .i64 0, .int .i64 0, .bool false, .int .i64 0, .int .i64 0, .int .i64 0, .int .i64 0, .slice none 0 0, .int .i64 0, .int .i64 0, .slice none 0 0, .slice none 0 0, .int .i64 0, .int .i64 0, .int .i64 0, .int .i64 0, .int .i64 0, .slice none 0 0, .slice none 0 0, .slice none 0 0] : List Value).toArray 29 (0, 0)), Mem.one g_26 (.cells ([.int .i64 7, .int .i64 (band .i64 t_5 3), .int .i64 (band .i64 (shr .i64 t_9 2) 3), .int .i64 (band .i64 (shr .i64 t_13 4) 255), .int .i64 0, .int .i64 0, .bool false, .int .i64 0, .int .i64 0, .int .i64 0, .int .i64 0, .slice none 0 0, .int .i64 (band .i64 t_17 4095), .int .i64 (band .i64 (shr .i64 t_21 12) 63), .slice none 0 0, .slice none 0 0, .int .i64 0, .int .i64 0, .int .i64 0, .int .i64 0, .int .i64 0, .slice none 0 0, .slice none 0 0, .slice none 0 0] : List Value).toArray 29 (0, 0)), Mem.no] Z := hS'
  clear hS'
  replace hS : Sep w0 w_27 [N_24, Mem.one g_2 (.cells ([p0_0] : List Value).toArray 23 (0, 0)), Mem.one g_4 (.cells ([.int .i64 0, .int .i64 0, .int .i64 0, .int .i64 0, .int .i64 0, .int .i64 0, .bool false, .int .i64 0, .int .i64 0, .int .i64 0, .int .i64 0, .slice none 0 0, .int .i64 0, .int .i64 0, .slice none 0 0, .slice none 0 0, .int .i64 0, .int .i64 0, .int .i64 0, .int .i64 0, .int .i64 0, .slice none 0 0, .slice none 0 0, .slice none 0 0] : List Value).toArray 29 (0, 0)), Mem.one g_26 (.cells ([.int .i64 7, .int .i64 (band .i64 t_5 3), .int .i64 (band .i64 (shr .i64 t_9 2) 3), .int .i64 (band .i64 (shr .i64 t_13 4) 255), .int .i64 0, .int .i64 0, .bool false, .int .i64 0, .int .i64 0, .int .i64 0, .int .i64 0, .slice none 0 0, .int .i64 (band .i64 t_17 4095), .int .i64 (band .i64 (shr .i64 t_21 12) 63), .slice none 0 0, .slice none 0 0, .int .i64 0, .int .i64 0, .int .i64 0, .int .i64 0, .int .i64 0, .slice none 0 0, .slice none 0 0, .slice none 0 0] : List Value).toArray 29 (0, 0)), Mem.no] Z := hS
  replace hm : Fr 72 a [(2, .pointer (some ⟨g_4, 0, none⟩)), (3, .func (.func 65) #[] [.pointer (some ⟨g_2, 0, none⟩)].toArray), (4, .pointer (some ⟨g_26, 0, none⟩)), (5, .int .i64 0)] := hm.keep [2, 3, 4, 5]
  refine c_block ?_
  refine c_loop (fun k_200 a w_200 => ∃ (x_194 : Int) (x_195 : List Int) (v_198 : Value) (N_193 : Mem) (M_196 : Mem), hocketlaw17_Token.L2 K x0 t_21 (fun v => hocketlaw17_Token.J1 K x0 t_21 t_5 t_9 t_13 t_17 v) k_200 (x_194, x_195) = some r ∧ Fr 72 a [(2, .pointer (some ⟨g_4, 0, none⟩)), (3, .func (.func 65) #[] [.pointer (some ⟨g_2, 0, none⟩)].toArray), (4, .pointer (some ⟨g_26, 0, none⟩)), (5, .int .i64 x_194)] ∧ Sep w0 w_200 [N_193, Mem.one g_2 (.cells ([p0_0] : List Value).toArray 23 (0, 0)), Mem.one g_4 (.cells ([.int .i64 0, .int .i64 0, .int .i64 0, .int .i64 0, .int .i64 0, .int .i64 0, .bool false, .int .i64 0, .int .i64 0, .int .i64 0, .int .i64 0, .slice none 0 0, .int .i64 0, .int .i64 0, .slice none 0 0, .slice none 0 0, .int .i64 0, .int .i64 0, .int .i64 0, .int .i64 0, .int .i64 0, .slice none 0 0, .slice none 0 0, .slice none 0 0] : List Value).toArray 29 (0, 0)), Mem.one g_26 (.cells ([.int .i64 7, .int .i64 (band .i64 t_5 3), .int .i64 (band .i64 (shr .i64 t_9 2) 3), .int .i64 (band .i64 (shr .i64 t_13 4) 255), .int .i64 0, .int .i64 0, .bool false, .int .i64 0, .int .i64 0, .int .i64 0, .int .i64 0, .slice none 0 0, .int .i64 (band .i64 t_17 4095), .int .i64 (band .i64 (shr .i64 t_21 12) 63), v_198, .slice none 0 0, .int .i64 0, .int .i64 0, .int .i64 0, .int .i64 0, .int .i64 0, .slice none 0 0, .slice none 0 0, .slice none 0 0] : List Value).toArray 29 (0, 0)), M_196] Z ∧ N_24.le N_193 ∧ Own (Kd.int .i64) 3 M_196 Mem.no v_198 x_195) K ⟨0, ([] : List Int), .slice none 0 0, N_24, Mem.no, H, hm, (Sep.sel hS [0, 1, 2, 3, 4] (by decide)), (Mem.le.refl _), (Own.nil (Kd.int .i64) 3 Mem.no)⟩ (fun a w h => by obtain ⟨_, _, _, _, _, H, _⟩ := h; cases (show (none : Option (api_Msg)) = some r from H)) ?_
  clear hm hS a H
  rintro k_200 a w_200 KL_200 hKL_200 ⟨x_194, x_195, v_198, N_193, M_196, H, hm, hS, le_193, ho_199⟩
  replace H : hocketlaw17_Token.B2 K x0 t_21 (fun v => hocketlaw17_Token.J1 K x0 t_21 t_5 t_9 t_13 t_17 v) (hocketlaw17_Token.L2 K x0 t_21 (fun v => hocketlaw17_Token.J1 K x0 t_21 t_5 t_9 t_13 t_17 v) k_200) x_194 x_195 = some r := H
  unfold hocketlaw17_Token.B2 at H
  refine c_seq fun KJ_203 hKJ_203 => ?_
  refine wp_seq ?_
  refine wp_region_lit ?_
  refine s_move hm rfl rfl ?_
  clear hm a; intro a hm
  refine s_move hm rfl rfl ?_
  clear hm a; intro a hm
  obtain ⟨t_204, et_204, H⟩ := Option.bind_eq_some_iff.1 H
  refine s_callv hm rfl rfl Try.call65 rfl (hocketlaw17_Token_1.calls 2 _ x0 _ t_204 w0 _ _ _ (Mem.le.refl _) (hS.enter [0] (by decide)) (hp0_0.mono (hA.trans (hS.le_zed [0]))) et_204) ?_
  rintro _ w_205 ⟨N_206, rfl, hS'⟩
  clear hm a; intro a hm
  obtain ⟨N_207, hS'', le_207, ln_207⟩ := hS.call [0] (by decide) rfl (l' := [Mem.one g_2 (.cells ([p0_0] : List Value).toArray 23 (0, 0))]) (ow := []) rfl hS'
  replace hS : Sep w0 w_205 [N_207, Mem.one g_2 (.cells ([p0_0] : List Value).toArray 23 (0, 0)), Mem.one g_4 (.cells ([.int .i64 0, .int .i64 0, .int .i64 0, .int .i64 0, .int .i64 0, .int .i64 0, .bool false, .int .i64 0, .int .i64 0, .int .i64 0, .int .i64 0, .slice none 0 0, .int .i64 0, .int .i64 0, .slice none 0 0, .slice none 0 0, .int .i64 0, .int .i64 0, .int .i64 0, .int .i64 0, .int .i64 0, .slice none 0 0, .slice none 0 0, .slice none 0 0] : List Value).toArray 29 (0, 0)), Mem.one g_26 (.cells ([.int .i64 7, .int .i64 (band .i64 t_5 3), .int .i64 (band .i64 (shr .i64 t_9 2) 3), .int .i64 (band .i64 (shr .i64 t_13 4) 255), .int .i64 0, .int .i64 0, .bool false, .int .i64 0, .int .i64 0, .int .i64 0, .int .i64 0, .slice none 0 0, .int .i64 (band .i64 t_17 4095), .int .i64 (band .i64 (shr .i64 t_21 12) 63), v_198, .slice none 0 0, .int .i64 0, .int .i64 0, .int .i64 0, .int .i64 0, .int .i64 0, .slice none 0 0, .slice none 0 0, .slice none 0 0] : List Value).toArray 29 (0, 0)), M_196] Z := hS''
  clear hS' hS''
  refine s_bits (i := t_204) (j := 7) (r := band .i64 t_204 7) hm rfl rfl rfl (.inl ⟨rfl, rfl⟩) ?_
  clear hm a; intro a hm
  refine s_cmp (b := decide (x_194 < (band .i64 t_204 7))) hm rfl rfl rfl (.inr (.inr (.inl ⟨rfl, rfl⟩))) ?_
  clear hm a; intro a hm
  refine wpList_nil ?_
  replace hm : Fr 72 a [(2, .pointer (some ⟨g_4, 0, none⟩)), (3, .func (.func 65) #[] [.pointer (some ⟨g_2, 0, none⟩)].toArray), (4, .pointer (some ⟨g_26, 0, none⟩)), (5, .int .i64 x_194), (31, .bool (decide (x_194 < (band .i64 t_204 7))))] := hm.keep [2, 3, 4, 5, 31]
  refine x_then_n ?_
  by_cases hc_208 : x_194 < (band .i64 t_204 7)
  · rw [if_pos hc_208] at H
    refine c_cond_t hm rfl (decide_eq_true hc_208) ?_
    refine wp_skip ?_
    refine x_then_n (hKJ_203 _ _ ?_)
    refine c_seq fun KJ_209 hKJ_209 => ?_
    refine c_block ?_
    refine h_begin (S := fun w => Sep w0 w [N_207, Mem.one g_2 (.cells ([p0_0] : List Value).toArray 23 (0, 0)), Mem.one g_4 (.cells ([.int .i64 0, .int .i64 0, .int .i64 0, .int .i64 0, .int .i64 0, .int .i64 0, .bool false, .int .i64 0, .int .i64 0, .int .i64 0, .int .i64 0, .slice none 0 0, .int .i64 0, .int .i64 0, .slice none 0 0, .slice none 0 0, .int .i64 0, .int .i64 0, .int .i64 0, .int .i64 0, .int .i64 0, .slice none 0 0, .slice none 0 0, .slice none 0 0] : List Value).toArray 29 (0, 0)), Mem.no, Mem.no] Z) 15 (by kernel_rfl) rfl [false, false, false, false, false, false, false, false, false, false, false, false, false, false, false].toArray rfl hS fun w_210 hS => ?_
    replace hS : Sep w0 w_210 [N_207, Mem.one g_2 (.cells ([p0_0] : List Value).toArray 23 (0, 0)), Mem.one g_4 (.cells ([.int .i64 0, .int .i64 0, .int .i64 0, .int .i64 0, .int .i64 0, .int .i64 0, .bool false, .int .i64 0, .int .i64 0, .int .i64 0, .int .i64 0, .slice none 0 0, .int .i64 0, .int .i64 0, .slice none 0 0, .slice none 0 0, .int .i64 0, .int .i64 0, .int .i64 0, .int .i64 0, .int .i64 0, .slice none 0 0, .slice none 0 0, .slice none 0 0] : List Value).toArray 29 (0, 0)), Mem.one g_26 (.cells ([.int .i64 7, .int .i64 (band .i64 t_5 3), .int .i64 (band .i64 (shr .i64 t_9 2) 3), .int .i64 (band .i64 (shr .i64 t_13 4) 255), .int .i64 0, .int .i64 0, .bool false, .int .i64 0, .int .i64 0, .int .i64 0, .int .i64 0, .slice none 0 0, .int .i64 (band .i64 t_17 4095), .int .i64 (band .i64 (shr .i64 t_21 12) 63), v_198, .slice none 0 0, .int .i64 0, .int .i64 0, .int .i64 0, .int .i64 0, .int .i64 0, .slice none 0 0, .slice none 0 0, .slice none 0 0] : List Value).toArray 29 (0, 0)), M_196] Z := hS
    refine h_take 0 [true, false, false, false, false, false, false, false, false, false, false, false, false, false, false].toArray rfl (by kernel_rfl) (by kernel_rfl) (by kernel_rfl) (fun _ _ _ _ h => h) rfl rfl rfl rfl hm (hS.sub (.cons (Mem.le.refl _) (.cons (Mem.le.refl _) (.cons (Mem.le.refl _) (.cons (Mem.no_le _) (.cons (Mem.no_le _) (Sub.nil _))))))) (v := .pointer (some ⟨g_26, 14, none⟩)) (fun w hS => r_fieldAddr hm Try.underlying29 rfl ti23 rfl rfl rfl) ?_
    clear hm a; intro a hm
    refine h_take 2 [true, false, true, false, false, false, false, false, false, false, false, false, false, false, false].toArray rfl (by kernel_rfl) (by kernel_rfl) (by kernel_rfl) (fun _ _ _ _ h => h) rfl rfl rfl rfl hm (hS.sub (.cons (Mem.le.refl _) (.cons (Mem.le.refl _) (.cons (Mem.le.refl _) (.cons (Mem.no_le _) (.cons (Mem.no_le _) (Sub.nil _))))))) (v := .pointer (some ⟨g_26, 13, none⟩)) (fun w hS => r_fieldAddr hm Try.underlying29 rfl ti3 rfl rfl rfl) ?_
    clear hm a; intro a hm
    refine h_take 4 [true, false, true, false, true, false, false, false, false, false, false, false, false, false, false].toArray rfl (by kernel_rfl) (by kernel_rfl) (by kernel_rfl) (fun _ _ _ _ h => h) rfl rfl rfl rfl hm (hS.sub (.cons (Mem.le.refl _) (.cons (Mem.le.refl _) (.cons (Mem.le.refl _) (.cons (Mem.no_le _) (.cons (Mem.no_le _) (Sub.nil _))))))) (v := .func (.func 65) #[] [.pointer (some ⟨g_2, 0, none⟩)].toArray) (fun w hS => r_move hm rfl) ?_
    clear hm a; intro a hm
    refine h_take 5 [true, false, true, false, true, true, false, false, false, false, false, false, false, false, false].toArray rfl (by kernel_rfl) (by kernel_rfl) (by kernel_rfl) (fun _ _ _ _ h => h) rfl rfl rfl rfl hm (hS.sub (.cons (Mem.le.refl _) (.cons (Mem.le.refl _) (.cons (Mem.le.refl _) (.cons (Mem.no_le _) (.cons (Mem.no_le _) (Sub.nil _))))))) (v := .int .i64 x_194) (fun w hS => r_move hm rfl) ?_
    clear hm a; intro a hm
    refine h_take 6 [true, false, true, false, true, true, true, false, false, false, false, false, false, false, false].toArray rfl (by kernel_rfl) (by kernel_rfl) (by kernel_rfl) (fun _ _ _ _ h => h) rfl rfl rfl rfl hm (hS.sub (.cons (Mem.le.refl _) (.cons (Mem.le.refl _) (.cons (Mem.le.refl _) (.cons (Mem.no_le _) (.cons (Mem.no_le _) (Sub.nil _))))))) (v := .int .i64 (w64 (x_194 + 3))) (fun w hS => r_arith (r := w64 (x_194 + 3)) hm rfl rfl (.inl ⟨rfl, rfl⟩)) ?_
    clear hm a; intro a hm
    obtain ⟨t_211, et_211, H⟩ := Option.bind_eq_some_iff.1 H
    obtain ⟨t_221, et_221, H⟩ := Option.bind_eq_some_iff.1 H
    refine h_events [1, 3, 7] (by kernel_rfl) (by simp) ?_
    intro i hi; simp only [List.mem_cons, List.not_mem_nil, or_false] at hi; rcases hi with rfl | rfl | rfl
    · refine ⟨_, [true, true, true, false, true, true, true, false, false, false, false, false, false, false, false].toArray, rfl, rfl, ?_⟩
      refine s_load hm rfl rfl (hS.load_one (p := 3) rfl Try.underlying23 rfl rfl) ?_
      clear hm a; intro a hm
      refine wpList_nil ?_
      refine x_then_n ⟨(hS.sub (.cons (Mem.le.refl _) (.cons (Mem.le.refl _) (.cons (Mem.le.refl _) (.cons (Mem.no_le _) (.cons (Mem.no_le _) (Sub.nil _))))))), ?_⟩
      refine h_events [3, 7] (by kernel_rfl) (by simp) ?_
      intro i hi; simp only [List.mem_cons, List.not_mem_nil, or_false] at hi; rcases hi with rfl | rfl
      · refine ⟨_, [true, true, true, true, true, true, true, false, false, false, false, false, false, false, false].toArray, rfl, rfl, ?_⟩
        refine s_load hm rfl rfl (hS.load_one (p := 3) rfl Try.underlying3 rfl rfl) ?_
        clear hm a; intro a hm
        refine wpList_nil ?_
        refine x_then_n ⟨(hS.sub (.cons (Mem.le.refl _) (.cons (Mem.le.refl _) (.cons (Mem.le.refl _) (.cons (Mem.no_le _) (.cons (Mem.no_le _) (Sub.nil _))))))), ?_⟩
        refine h_event 7 [true, true, true, true, true, true, true, true, false, false, false, false, false, false, false].toArray rfl (by kernel_rfl) rfl ?_
        refine s_callv hm rfl rfl Try.call65 rfl (hocketlaw17_Token_1.calls (w64 (x_194 + 3)) _ x0 _ t_211 w0 _ _ _ (Mem.le.refl _) (hS.enter [0] (by decide)) (hp0_0.mono (hA.trans (hS.le_zed [0]))) et_211) ?_
        rintro _ w_212 ⟨N_213, rfl, hS'⟩
        clear hm a; intro a hm
        obtain ⟨N_214, hS'', le_214, ln_214⟩ := hS.call [0] (by decide) rfl (l' := [Mem.one g_2 (.cells ([p0_0] : List Value).toArray 23 (0, 0))]) (ow := []) rfl hS'
        replace hS : Sep w0 w_212 [N_214, Mem.one g_2 (.cells ([p0_0] : List Value).toArray 23 (0, 0)), Mem.one g_4 (.cells ([.int .i64 0, .int .i64 0, .int .i64 0, .int .i64 0, .int .i64 0, .int .i64 0, .bool false, .int .i64 0, .int .i64 0, .int .i64 0, .int .i64 0, .slice none 0 0, .int .i64 0, .int .i64 0, .slice none 0 0, .slice none 0 0, .int .i64 0, .int .i64 0, .int .i64 0, .int .i64 0, .int .i64 0, .slice none 0 0, .slice none 0 0, .slice none 0 0] : List Value).toArray 29 (0, 0)), Mem.one g_26 (.cells ([.int .i64 7, .int .i64 (band .i64 t_5 3), .int .i64 (band .i64 (shr .i64 t_9 2) 3), .int .i64 (band .i64 (shr .i64 t_13 4) 255), .int .i64 0, .int .i64 0, .bool false, .int .i64 0, .int .i64 0, .int .i64 0, .int .i64 0, .slice none 0 0, .int .i64 (band .i64 t_17 4095), .int .i64 (band .i64 (shr .i64 t_21 12) 63), v_198, .slice none 0 0, .int .i64 0, .int .i64 0, .int .i64 0, .int .i64 0, .int .i64 0, .slice none 0 0, .slice none 0 0, .slice none 0 0] : List Value).toArray 29 (0, 0)), M_196] Z := hS''
        clear hS' hS''
        refine wpList_nil ?_
        refine x_then_n ⟨(hS.sub (.cons le_214 (.cons (Mem.le.refl _) (.cons (Mem.le.refl _) (.cons (Mem.no_le _) (.cons (Mem.no_le _) (Sub.nil _))))))), ?_⟩
        refine h_take 8 [true, true, true, true, true, true, true, true, true, false, false, false, false, false, false].toArray rfl (by kernel_rfl) (by kernel_rfl) (by kernel_rfl) (fun _ _ _ _ h => h) rfl rfl rfl rfl hm (hS.sub (.cons le_214 (.cons (Mem.le.refl _) (.cons (Mem.le.refl _) (.cons (Mem.no_le _) (.cons (Mem.no_le _) (Sub.nil _))))))) (v := .int .i64 (band .i64 t_211 15)) (fun w hS => r_bits (i := t_211) (j := 15) (r := band .i64 t_211 15) hm rfl rfl (.inl ⟨rfl, rfl⟩)) ?_
        clear hm a; intro a hm
        refine h_take 9 [true, true, true, true, true, true, true, true, true, true, false, false, false, false, false].toArray rfl (by kernel_rfl) (by kernel_rfl) (by kernel_rfl) (fun _ _ _ _ h => h) rfl rfl rfl rfl hm (hS.sub (.cons le_214 (.cons (Mem.le.refl _) (.cons (Mem.le.refl _) (.cons (Mem.no_le _) (.cons (Mem.no_le _) (Sub.nil _))))))) (v := .int .i64 (w64 ((band .i64 (shr .i64 t_21 12) 63) - (band .i64 t_211 15)))) (fun w hS => r_arith (r := w64 ((band .i64 (shr .i64 t_21 12) 63) - (band .i64 t_211 15))) hm rfl rfl (.inr (.inl ⟨rfl, rfl⟩))) ?_
        clear hm a; intro a hm
        refine h_take 10 [true, true, true, true, true, true, true, true, true, true, true, false, false, false, false].toArray rfl (by kernel_rfl) (by kernel_rfl) (by kernel_rfl) (fun _ _ _ _ h => h) rfl rfl rfl rfl hm (hS.sub (.cons le_214 (.cons (Mem.le.refl _) (.cons (Mem.le.refl _) (.cons (Mem.no_le _) (.cons (Mem.no_le _) (Sub.nil _))))))) (v := .int .i64 (mx (w64 ((band .i64 (shr .i64 t_21 12) 63) - (band .i64 t_211 15))) 0)) (fun w hS => r_max hm rfl rfl) ?_
        clear hm a; intro a hm
        refine h_event 11 [true, true, true, true, true, true, true, true, true, true, true, true, false, false, false].toArray rfl (by kernel_rfl) rfl ?_
        have hq_219 : Reps (Kd.int .i64) Mem.no ([mx (w64 ((band .i64 (shr .i64 t_21 12) 63) - (band .i64 t_211 15))) 0] : List Int) _ := ((Reps.one (d := (Kd.int .i64)) (x := mx (w64 ((band .i64 (shr .i64 t_21 12) 63) - (band .i64 t_211 15))) 0) (show (Kd.int .i64).K _ _ [.int .i64 (mx (w64 ((band .i64 (shr .i64 t_21 12) 63) - (band .i64 t_211 15))) 0)] from rfl)).append (Reps.nil (Kd.int .i64) _))
        refine s_buildSlice hm rfl Try.underlying23 ti3 rfl rfl rfl (.cons rfl .nil) rfl rfl rfl hS hq_219 rfl ?_
        intro w_215 v_216 M_217 hS' ho_218
        clear hm a; intro a hm
        replace hS : Sep w0 w_215 [N_214, Mem.one g_2 (.cells ([p0_0] : List Value).toArray 23 (0, 0)), Mem.one g_4 (.cells ([.int .i64 0, .int .i64 0, .int .i64 0, .int .i64 0, .int .i64 0, .int .i64 0, .bool false, .int .i64 0, .int .i64 0, .int .i64 0, .int .i64 0, .slice none 0 0, .int .i64 0, .int .i64 0, .slice none 0 0, .slice none 0 0, .int .i64 0, .int .i64 0, .int .i64 0, .int .i64 0, .int .i64 0, .slice none 0 0, .slice none 0 0, .slice none 0 0] : List Value).toArray 29 (0, 0)), Mem.one g_26 (.cells ([.int .i64 7, .int .i64 (band .i64 t_5 3), .int .i64 (band .i64 (shr .i64 t_9 2) 3), .int .i64 (band .i64 (shr .i64 t_13 4) 255), .int .i64 0, .int .i64 0, .bool false, .int .i64 0, .int .i64 0, .int .i64 0, .int .i64 0, .slice none 0 0, .int .i64 (band .i64 t_17 4095), .int .i64 (band .i64 (shr .i64 t_21 12) 63), v_198, .slice none 0 0, .int .i64 0, .int .i64 0, .int .i64 0, .int .i64 0, .int .i64 0, .slice none 0 0, .slice none 0 0, .slice none 0 0] : List Value).toArray 29 (0, 0)), M_196, M_217] Z := hS'
        clear hS' hq_219
        refine wpList_nil ?_
        refine x_then_n ⟨(hS.sub (.cons le_214 (.cons (Mem.le.refl _) (.cons (Mem.le.refl _) (.cons (Mem.no_le _) (.cons (Mem.no_le _) (Sub.nil _))))))), ?_⟩
        refine h_event 12 [true, true, true, true, true, true, true, true, true, true, true, true, true, false, false].toArray rfl (by kernel_rfl) rfl ?_
        refine s_append (J := Mem.no) (I' := Mem.no) (p := 4) 17592186044416 hm rfl rfl rfl Try.underlying23 ti3 rfl rfl rfl rfl hS rfl ho_199 (Src.flat (flat_int .i64) (ho_218.src (hS.own 5))) (Mem.le.refl _) (Mem.le.refl _) et_221 ?_
        intro w_222 v_223 M_224 hS' ho_225
        clear hm a; intro a hm
        replace hS : Sep w0 w_222 [N_214, Mem.one g_2 (.cells ([p0_0] : List Value).toArray 23 (0, 0)), Mem.one g_4 (.cells ([.int .i64 0, .int .i64 0, .int .i64 0, .int .i64 0, .int .i64 0, .int .i64 0, .bool false, .int .i64 0, .int .i64 0, .int .i64 0, .int .i64 0, .slice none 0 0, .int .i64 0, .int .i64 0, .slice none 0 0, .slice none 0 0, .int .i64 0, .int .i64 0, .int .i64 0, .int .i64 0, .int .i64 0, .slice none 0 0, .slice none 0 0, .slice none 0 0] : List Value).toArray 29 (0, 0)), Mem.one g_26 (.cells ([.int .i64 7, .int .i64 (band .i64 t_5 3), .int .i64 (band .i64 (shr .i64 t_9 2) 3), .int .i64 (band .i64 (shr .i64 t_13 4) 255), .int .i64 0, .int .i64 0, .bool false, .int .i64 0, .int .i64 0, .int .i64 0, .int .i64 0, .slice none 0 0, .int .i64 (band .i64 t_17 4095), .int .i64 (band .i64 (shr .i64 t_21 12) 63), v_198, .slice none 0 0, .int .i64 0, .int .i64 0, .int .i64 0, .int .i64 0, .int .i64 0, .slice none 0 0, .slice none 0 0, .slice none 0 0] : List Value).toArray 29 (0, 0)), M_224, M_217] Z := hS'
        clear hS'
        refine wpList_nil ?_
        refine x_then_n ⟨(hS.sub (.cons le_214 (.cons (Mem.le.refl _) (.cons (Mem.le.refl _) (.cons (Mem.no_le _) (.cons (Mem.no_le _) (Sub.nil _))))))), ?_⟩
        refine h_take 13 [true, true, true, true, true, true, true, true, true, true, true, true, true, true, false].toArray rfl (by kernel_rfl) (by kernel_rfl) (by kernel_rfl) (fun _ _ _ _ h => h) rfl rfl rfl rfl hm (hS.sub (.cons le_214 (.cons (Mem.le.refl _) (.cons (Mem.le.refl _) (.cons (Mem.no_le _) (.cons (Mem.no_le _) (Sub.nil _))))))) (v := .pointer (some ⟨g_26, 14, none⟩)) (fun w hS => r_fieldAddr hm Try.underlying29 rfl ti23 rfl rfl rfl) ?_
        clear hm a; intro a hm
        refine h_event 14 [true, true, true, true, true, true, true, true, true, true, true, true, true, true, true].toArray rfl (by kernel_rfl) rfl ?_
        obtain ⟨w_227, hs', hS'⟩ := hS.store (P := Try.prog) (p := 3) (o := 14) (t := 23) (v := v_223) (vs := [v_223]) rfl ti23 ho_225.cellsA rfl rfl (by intro u hu; simp only [List.mem_cons, List.not_mem_nil, or_false] at hu; rcases hu with rfl <;> first | rfl | exact ho_225.one)
        refine s_store hm rfl rfl hs' ?_
        replace hS : Sep w0 w_227 [N_214, Mem.one g_2 (.cells ([p0_0] : List Value).toArray 23 (0, 0)), Mem.one g_4 (.cells ([.int .i64 0, .int .i64 0, .int .i64 0, .int .i64 0, .int .i64 0, .int .i64 0, .bool false, .int .i64 0, .int .i64 0, .int .i64 0, .int .i64 0, .slice none 0 0, .int .i64 0, .int .i64 0, .slice none 0 0, .slice none 0 0, .int .i64 0, .int .i64 0, .int .i64 0, .int .i64 0, .int .i64 0, .slice none 0 0, .slice none 0 0, .slice none 0 0] : List Value).toArray 29 (0, 0)), Mem.one g_26 (.cells ([.int .i64 7, .int .i64 (band .i64 t_5 3), .int .i64 (band .i64 (shr .i64 t_9 2) 3), .int .i64 (band .i64 (shr .i64 t_13 4) 255), .int .i64 0, .int .i64 0, .bool false, .int .i64 0, .int .i64 0, .int .i64 0, .int .i64 0, .slice none 0 0, .int .i64 (band .i64 t_17 4095), .int .i64 (band .i64 (shr .i64 t_21 12) 63), v_223, .slice none 0 0, .int .i64 0, .int .i64 0, .int .i64 0, .int .i64 0, .int .i64 0, .slice none 0 0, .slice none 0 0, .slice none 0 0] : List Value).toArray 29 (0, 0)), M_224, M_217] Z := hS'
        clear hs' hS'
        refine wpList_nil ?_
        refine x_then_n ⟨(hS.sub (.cons le_214 (.cons (Mem.le.refl _) (.cons (Mem.le.refl _) (.cons (Mem.no_le _) (.cons (Mem.no_le _) (Sub.nil _))))))), ?_⟩
        refine h_done (by kernel_rfl) ?_
        replace hm : Fr 72 a [(2, .pointer (some ⟨g_4, 0, none⟩)), (3, .func (.func 65) #[] [.pointer (some ⟨g_2, 0, none⟩)].toArray), (4, .pointer (some ⟨g_26, 0, none⟩)), (5, .int .i64 x_194)] := hm.keep [2, 3, 4, 5]
        refine x_block_n ?_
        refine x_then_n (hKJ_209 _ _ ?_)
        refine wp_region_lit ?_
        refine s_move hm rfl rfl ?_
        clear hm a; intro a hm
        refine s_arith (r := w64 (x_194 + 1)) hm rfl rfl rfl (.inl ⟨rfl, rfl⟩) ?_
        clear hm a; intro a hm
        refine s_assign hm rfl rfl ?_
        clear hm a; intro a hm
        refine wpList_nil ?_
        replace hm : Fr 72 a [(2, .pointer (some ⟨g_4, 0, none⟩)), (3, .func (.func 65) #[] [.pointer (some ⟨g_2, 0, none⟩)].toArray), (4, .pointer (some ⟨g_26, 0, none⟩)), (5, .int .i64 (w64 (x_194 + 1)))] := hm.keep [2, 3, 4, 5]
        refine x_then_n (hKL_200 _ _ ?_)
        replace hS : Sep w0 w_227 [N_214, Mem.one g_2 (.cells ([p0_0] : List Value).toArray 23 (0, 0)), Mem.one g_4 (.cells ([.int .i64 0, .int .i64 0, .int .i64 0, .int .i64 0, .int .i64 0, .int .i64 0, .bool false, .int .i64 0, .int .i64 0, .int .i64 0, .int .i64 0, .slice none 0 0, .int .i64 0, .int .i64 0, .slice none 0 0, .slice none 0 0, .int .i64 0, .int .i64 0, .int .i64 0, .int .i64 0, .int .i64 0, .slice none 0 0, .slice none 0 0, .slice none 0 0] : List Value).toArray 29 (0, 0)), Mem.one g_26 (.cells ([.int .i64 7, .int .i64 (band .i64 t_5 3), .int .i64 (band .i64 (shr .i64 t_9 2) 3), .int .i64 (band .i64 (shr .i64 t_13 4) 255), .int .i64 0, .int .i64 0, .bool false, .int .i64 0, .int .i64 0, .int .i64 0, .int .i64 0, .slice none 0 0, .int .i64 (band .i64 t_17 4095), .int .i64 (band .i64 (shr .i64 t_21 12) 63), v_223, .slice none 0 0, .int .i64 0, .int .i64 0, .int .i64 0, .int .i64 0, .int .i64 0, .slice none 0 0, .slice none 0 0, .slice none 0 0] : List Value).toArray 29 (0, 0)), M_224, M_217] Z := hS
        replace hm : Fr 72 a [(2, .pointer (some ⟨g_4, 0, none⟩)), (3, .func (.func 65) #[] [.pointer (some ⟨g_2, 0, none⟩)].toArray), (4, .pointer (some ⟨g_26, 0, none⟩)), (5, .int .i64 (w64 (x_194 + 1)))] := hm.keep [2, 3, 4, 5]
        exact ⟨w64 (x_194 + 1), t_221, v_223, N_214, M_224, H, hm, (Sep.sel hS [0, 1, 2, 3, 4] (by decide)), (le_193.trans (le_207.trans le_214)), ho_225⟩
      · refine ⟨_, [true, true, true, false, true, true, true, true, false, false, false, false, false, false, false].toArray, rfl, rfl, ?_⟩
        refine s_callv hm rfl rfl Try.call65 rfl (hocketlaw17_Token_1.calls (w64 (x_194 + 3)) _ x0 _ t_211 w0 _ _ _ (Mem.le.refl _) (hS.enter [0] (by decide)) (hp0_0.mono (hA.trans (hS.le_zed [0]))) et_211) ?_
        rintro _ w_229 ⟨N_230, rfl, hS'⟩
        clear hm a; intro a hm
        obtain ⟨N_231, hS'', le_231, ln_231⟩ := hS.call [0] (by decide) rfl (l' := [Mem.one g_2 (.cells ([p0_0] : List Value).toArray 23 (0, 0))]) (ow := []) rfl hS'
        replace hS : Sep w0 w_229 [N_231, Mem.one g_2 (.cells ([p0_0] : List Value).toArray 23 (0, 0)), Mem.one g_4 (.cells ([.int .i64 0, .int .i64 0, .int .i64 0, .int .i64 0, .int .i64 0, .int .i64 0, .bool false, .int .i64 0, .int .i64 0, .int .i64 0, .int .i64 0, .slice none 0 0, .int .i64 0, .int .i64 0, .slice none 0 0, .slice none 0 0, .int .i64 0, .int .i64 0, .int .i64 0, .int .i64 0, .int .i64 0, .slice none 0 0, .slice none 0 0, .slice none 0 0] : List Value).toArray 29 (0, 0)), Mem.one g_26 (.cells ([.int .i64 7, .int .i64 (band .i64 t_5 3), .int .i64 (band .i64 (shr .i64 t_9 2) 3), .int .i64 (band .i64 (shr .i64 t_13 4) 255), .int .i64 0, .int .i64 0, .bool false, .int .i64 0, .int .i64 0, .int .i64 0, .int .i64 0, .slice none 0 0, .int .i64 (band .i64 t_17 4095), .int .i64 (band .i64 (shr .i64 t_21 12) 63), v_198, .slice none 0 0, .int .i64 0, .int .i64 0, .int .i64 0, .int .i64 0, .int .i64 0, .slice none 0 0, .slice none 0 0, .slice none 0 0] : List Value).toArray 29 (0, 0)), M_196] Z := hS''
        clear hS' hS''
        refine wpList_nil ?_
        refine x_then_n ⟨(hS.sub (.cons le_231 (.cons (Mem.le.refl _) (.cons (Mem.le.refl _) (.cons (Mem.no_le _) (.cons (Mem.no_le _) (Sub.nil _))))))), ?_⟩
        refine h_take 8 [true, true, true, false, true, true, true, true, true, false, false, false, false, false, false].toArray rfl (by kernel_rfl) (by kernel_rfl) (by kernel_rfl) (fun _ _ _ _ h => h) rfl rfl rfl rfl hm (hS.sub (.cons le_231 (.cons (Mem.le.refl _) (.cons (Mem.le.refl _) (.cons (Mem.no_le _) (.cons (Mem.no_le _) (Sub.nil _))))))) (v := .int .i64 (band .i64 t_211 15)) (fun w hS => r_bits (i := t_211) (j := 15) (r := band .i64 t_211 15) hm rfl rfl (.inl ⟨rfl, rfl⟩)) ?_
        clear hm a; intro a hm
        refine h_event 3 [true, true, true, true, true, true, true, true, true, false, false, false, false, false, false].toArray rfl (by kernel_rfl) rfl ?_
        refine s_load hm rfl rfl (hS.load_one (p := 3) rfl Try.underlying3 rfl rfl) ?_
        clear hm a; intro a hm
        refine wpList_nil ?_
        refine x_then_n ⟨(hS.sub (.cons le_231 (.cons (Mem.le.refl _) (.cons (Mem.le.refl _) (.cons (Mem.no_le _) (.cons (Mem.no_le _) (Sub.nil _))))))), ?_⟩
        refine h_take 9 [true, true, true, true, true, true, true, true, true, true, false, false, false, false, false].toArray rfl (by kernel_rfl) (by kernel_rfl) (by kernel_rfl) (fun _ _ _ _ h => h) rfl rfl rfl rfl hm (hS.sub (.cons le_231 (.cons (Mem.le.refl _) (.cons (Mem.le.refl _) (.cons (Mem.no_le _) (.cons (Mem.no_le _) (Sub.nil _))))))) (v := .int .i64 (w64 ((band .i64 (shr .i64 t_21 12) 63) - (band .i64 t_211 15)))) (fun w hS => r_arith (r := w64 ((band .i64 (shr .i64 t_21 12) 63) - (band .i64 t_211 15))) hm rfl rfl (.inr (.inl ⟨rfl, rfl⟩))) ?_
        clear hm a; intro a hm
        refine h_take 10 [true, true, true, true, true, true, true, true, true, true, true, false, false, false, false].toArray rfl (by kernel_rfl) (by kernel_rfl) (by kernel_rfl) (fun _ _ _ _ h => h) rfl rfl rfl rfl hm (hS.sub (.cons le_231 (.cons (Mem.le.refl _) (.cons (Mem.le.refl _) (.cons (Mem.no_le _) (.cons (Mem.no_le _) (Sub.nil _))))))) (v := .int .i64 (mx (w64 ((band .i64 (shr .i64 t_21 12) 63) - (band .i64 t_211 15))) 0)) (fun w hS => r_max hm rfl rfl) ?_
        clear hm a; intro a hm
        refine h_event 11 [true, true, true, true, true, true, true, true, true, true, true, true, false, false, false].toArray rfl (by kernel_rfl) rfl ?_
        have hq_236 : Reps (Kd.int .i64) Mem.no ([mx (w64 ((band .i64 (shr .i64 t_21 12) 63) - (band .i64 t_211 15))) 0] : List Int) _ := ((Reps.one (d := (Kd.int .i64)) (x := mx (w64 ((band .i64 (shr .i64 t_21 12) 63) - (band .i64 t_211 15))) 0) (show (Kd.int .i64).K _ _ [.int .i64 (mx (w64 ((band .i64 (shr .i64 t_21 12) 63) - (band .i64 t_211 15))) 0)] from rfl)).append (Reps.nil (Kd.int .i64) _))
        refine s_buildSlice hm rfl Try.underlying23 ti3 rfl rfl rfl (.cons rfl .nil) rfl rfl rfl hS hq_236 rfl ?_
        intro w_232 v_233 M_234 hS' ho_235
        clear hm a; intro a hm
        replace hS : Sep w0 w_232 [N_231, Mem.one g_2 (.cells ([p0_0] : List Value).toArray 23 (0, 0)), Mem.one g_4 (.cells ([.int .i64 0, .int .i64 0, .int .i64 0, .int .i64 0, .int .i64 0, .int .i64 0, .bool false, .int .i64 0, .int .i64 0, .int .i64 0, .int .i64 0, .slice none 0 0, .int .i64 0, .int .i64 0, .slice none 0 0, .slice none 0 0, .int .i64 0, .int .i64 0, .int .i64 0, .int .i64 0, .int .i64 0, .slice none 0 0, .slice none 0 0, .slice none 0 0] : List Value).toArray 29 (0, 0)), Mem.one g_26 (.cells ([.int .i64 7, .int .i64 (band .i64 t_5 3), .int .i64 (band .i64 (shr .i64 t_9 2) 3), .int .i64 (band .i64 (shr .i64 t_13 4) 255), .int .i64 0, .int .i64 0, .bool false, .int .i64 0, .int .i64 0, .int .i64 0, .int .i64 0, .slice none 0 0, .int .i64 (band .i64 t_17 4095), .int .i64 (band .i64 (shr .i64 t_21 12) 63), v_198, .slice none 0 0, .int .i64 0, .int .i64 0, .int .i64 0, .int .i64 0, .int .i64 0, .slice none 0 0, .slice none 0 0, .slice none 0 0] : List Value).toArray 29 (0, 0)), M_196, M_234] Z := hS'
        clear hS' hq_236
        refine wpList_nil ?_
        refine x_then_n ⟨(hS.sub (.cons le_231 (.cons (Mem.le.refl _) (.cons (Mem.le.refl _) (.cons (Mem.no_le _) (.cons (Mem.no_le _) (Sub.nil _))))))), ?_⟩
        refine h_event 12 [true, true, true, true, true, true, true, true, true, true, true, true, true, false, false].toArray rfl (by kernel_rfl) rfl ?_
        refine s_append (J := Mem.no) (I' := Mem.no) (p := 4) 17592186044416 hm rfl rfl rfl Try.underlying23 ti3 rfl rfl rfl rfl hS rfl ho_199 (Src.flat (flat_int .i64) (ho_235.src (hS.own 5))) (Mem.le.refl _) (Mem.le.refl _) et_221 ?_
        intro w_239 v_240 M_241 hS' ho_242
        clear hm a; intro a hm
        replace hS : Sep w0 w_239 [N_231, Mem.one g_2 (.cells ([p0_0] : List Value).toArray 23 (0, 0)), Mem.one g_4 (.cells ([.int .i64 0, .int .i64 0, .int .i64 0, .int .i64 0, .int .i64 0, .int .i64 0, .bool false, .int .i64 0, .int .i64 0, .int .i64 0, .int .i64 0, .slice none 0 0, .int .i64 0, .int .i64 0, .slice none 0 0, .slice none 0 0, .int .i64 0, .int .i64 0, .int .i64 0, .int .i64 0, .int .i64 0, .slice none 0 0, .slice none 0 0, .slice none 0 0] : List Value).toArray 29 (0, 0)), Mem.one g_26 (.cells ([.int .i64 7, .int .i64 (band .i64 t_5 3), .int .i64 (band .i64 (shr .i64 t_9 2) 3), .int .i64 (band .i64 (shr .i64 t_13 4) 255), .int .i64 0, .int .i64 0, .bool false, .int .i64 0, .int .i64 0, .int .i64 0, .int .i64 0, .slice none 0 0, .int .i64 (band .i64 t_17 4095), .int .i64 (band .i64 (shr .i64 t_21 12) 63), v_198, .slice none 0 0, .int .i64 0, .int .i64 0, .int .i64 0, .int .i64 0, .int .i64 0, .slice none 0 0, .slice none 0 0, .slice none 0 0] : List Value).toArray 29 (0, 0)), M_241, M_234] Z := hS'
        clear hS'
        refine wpList_nil ?_
        refine x_then_n ⟨(hS.sub (.cons le_231 (.cons (Mem.le.refl _) (.cons (Mem.le.refl _) (.cons (Mem.no_le _) (.cons (Mem.no_le _) (Sub.nil _))))))), ?_⟩
        refine h_take 13 [true, true, true, true, true, true, true, true, true, true, true, true, true, true, false].toArray rfl (by kernel_rfl) (by kernel_rfl) (by kernel_rfl) (fun _ _ _ _ h => h) rfl rfl rfl rfl hm (hS.sub (.cons le_231 (.cons (Mem.le.refl _) (.cons (Mem.le.refl _) (.cons (Mem.no_le _) (.cons (Mem.no_le _) (Sub.nil _))))))) (v := .pointer (some ⟨g_26, 14, none⟩)) (fun w hS => r_fieldAddr hm Try.underlying29 rfl ti23 rfl rfl rfl) ?_
        clear hm a; intro a hm
        refine h_event 14 [true, true, true, true, true, true, true, true, true, true, true, true, true, true, true].toArray rfl (by kernel_rfl) rfl ?_
        obtain ⟨w_244, hs', hS'⟩ := hS.store (P := Try.prog) (p := 3) (o := 14) (t := 23) (v := v_240) (vs := [v_240]) rfl ti23 ho_242.cellsA rfl rfl (by intro u hu; simp only [List.mem_cons, List.not_mem_nil, or_false] at hu; rcases hu with rfl <;> first | rfl | exact ho_242.one)
        refine s_store hm rfl rfl hs' ?_
        replace hS : Sep w0 w_244 [N_231, Mem.one g_2 (.cells ([p0_0] : List Value).toArray 23 (0, 0)), Mem.one g_4 (.cells ([.int .i64 0, .int .i64 0, .int .i64 0, .int .i64 0, .int .i64 0, .int .i64 0, .bool false, .int .i64 0, .int .i64 0, .int .i64 0, .int .i64 0, .slice none 0 0, .int .i64 0, .int .i64 0, .slice none 0 0, .slice none 0 0, .int .i64 0, .int .i64 0, .int .i64 0, .int .i64 0, .int .i64 0, .slice none 0 0, .slice none 0 0, .slice none 0 0] : List Value).toArray 29 (0, 0)), Mem.one g_26 (.cells ([.int .i64 7, .int .i64 (band .i64 t_5 3), .int .i64 (band .i64 (shr .i64 t_9 2) 3), .int .i64 (band .i64 (shr .i64 t_13 4) 255), .int .i64 0, .int .i64 0, .bool false, .int .i64 0, .int .i64 0, .int .i64 0, .int .i64 0, .slice none 0 0, .int .i64 (band .i64 t_17 4095), .int .i64 (band .i64 (shr .i64 t_21 12) 63), v_240, .slice none 0 0, .int .i64 0, .int .i64 0, .int .i64 0, .int .i64 0, .int .i64 0, .slice none 0 0, .slice none 0 0, .slice none 0 0] : List Value).toArray 29 (0, 0)), M_241, M_234] Z := hS'
        clear hs' hS'
        refine wpList_nil ?_
        refine x_then_n ⟨(hS.sub (.cons le_231 (.cons (Mem.le.refl _) (.cons (Mem.le.refl _) (.cons (Mem.no_le _) (.cons (Mem.no_le _) (Sub.nil _))))))), ?_⟩
        refine h_done (by kernel_rfl) ?_
        replace hm : Fr 72 a [(2, .pointer (some ⟨g_4, 0, none⟩)), (3, .func (.func 65) #[] [.pointer (some ⟨g_2, 0, none⟩)].toArray), (4, .pointer (some ⟨g_26, 0, none⟩)), (5, .int .i64 x_194)] := hm.keep [2, 3, 4, 5]
        refine x_block_n ?_
        refine x_then_n (hKJ_209 _ _ ?_)
        refine wp_region_lit ?_
        refine s_move hm rfl rfl ?_
        clear hm a; intro a hm
        refine s_arith (r := w64 (x_194 + 1)) hm rfl rfl rfl (.inl ⟨rfl, rfl⟩) ?_
        clear hm a; intro a hm
        refine s_assign hm rfl rfl ?_
        clear hm a; intro a hm
        refine wpList_nil ?_
        replace hm : Fr 72 a [(2, .pointer (some ⟨g_4, 0, none⟩)), (3, .func (.func 65) #[] [.pointer (some ⟨g_2, 0, none⟩)].toArray), (4, .pointer (some ⟨g_26, 0, none⟩)), (5, .int .i64 (w64 (x_194 + 1)))] := hm.keep [2, 3, 4, 5]
        refine x_then_n (hKL_200 _ _ ?_)
        replace hS : Sep w0 w_244 [N_231, Mem.one g_2 (.cells ([p0_0] : List Value).toArray 23 (0, 0)), Mem.one g_4 (.cells ([.int .i64 0, .int .i64 0, .int .i64 0, .int .i64 0, .int .i64 0, .int .i64 0, .bool false, .int .i64 0, .int .i64 0, .int .i64 0, .int .i64 0, .slice none 0 0, .int .i64 0, .int .i64 0, .slice none 0 0, .slice none 0 0, .int .i64 0, .int .i64 0, .int .i64 0, .int .i64 0, .int .i64 0, .slice none 0 0, .slice none 0 0, .slice none 0 0] : List Value).toArray 29 (0, 0)), Mem.one g_26 (.cells ([.int .i64 7, .int .i64 (band .i64 t_5 3), .int .i64 (band .i64 (shr .i64 t_9 2) 3), .int .i64 (band .i64 (shr .i64 t_13 4) 255), .int .i64 0, .int .i64 0, .bool false, .int .i64 0, .int .i64 0, .int .i64 0, .int .i64 0, .slice none 0 0, .int .i64 (band .i64 t_17 4095), .int .i64 (band .i64 (shr .i64 t_21 12) 63), v_240, .slice none 0 0, .int .i64 0, .int .i64 0, .int .i64 0, .int .i64 0, .int .i64 0, .slice none 0 0, .slice none 0 0, .slice none 0 0] : List Value).toArray 29 (0, 0)), M_241, M_234] Z := hS
        replace hm : Fr 72 a [(2, .pointer (some ⟨g_4, 0, none⟩)), (3, .func (.func 65) #[] [.pointer (some ⟨g_2, 0, none⟩)].toArray), (4, .pointer (some ⟨g_26, 0, none⟩)), (5, .int .i64 (w64 (x_194 + 1)))] := hm.keep [2, 3, 4, 5]
        exact ⟨w64 (x_194 + 1), t_221, v_240, N_231, M_241, H, hm, (Sep.sel hS [0, 1, 2, 3, 4] (by decide)), (le_193.trans (le_207.trans le_231)), ho_242⟩
    · refine ⟨_, [true, false, true, true, true, true, true, false, false, false, false, false, false, false, false].toArray, rfl, rfl, ?_⟩
      refine s_load hm rfl rfl (hS.load_one (p := 3) rfl Try.underlying3 rfl rfl) ?_
      clear hm a; intro a hm
      refine wpList_nil ?_
      refine x_then_n ⟨(hS.sub (.cons (Mem.le.refl _) (.cons (Mem.le.refl _) (.cons (Mem.le.refl _) (.cons (Mem.no_le _) (.cons (Mem.no_le _) (Sub.nil _))))))), ?_⟩
      refine h_events [1, 7] (by kernel_rfl) (by simp) ?_
      intro i hi; simp only [List.mem_cons, List.not_mem_nil, or_false] at hi; rcases hi with rfl | rfl
      · refine ⟨_, [true, true, true, true, true, true, true, false, false, false, false, false, false, false, false].toArray, rfl, rfl, ?_⟩
        refine s_load hm rfl rfl (hS.load_one (p := 3) rfl Try.underlying23 rfl rfl) ?_
        clear hm a; intro a hm
        refine wpList_nil ?_
        refine x_then_n ⟨(hS.sub (.cons (Mem.le.refl _) (.cons (Mem.le.refl _) (.cons (Mem.le.refl _) (.cons (Mem.no_le _) (.cons (Mem.no_le _) (Sub.nil _))))))), ?_⟩
        refine h_event 7 [true, true, true, true, true, true, true, true, false, false, false, false, false, false, false].toArray rfl (by kernel_rfl) rfl ?_
        refine s_callv hm rfl rfl Try.call65 rfl (hocketlaw17_Token_1.calls (w64 (x_194 + 3)) _ x0 _ t_211 w0 _ _ _ (Mem.le.refl _) (hS.enter [0] (by decide)) (hp0_0.mono (hA.trans (hS.le_zed [0]))) et_211) ?_
        rintro _ w_246 ⟨N_247, rfl, hS'⟩
        clear hm a; intro a hm
        obtain ⟨N_248, hS'', le_248, ln_248⟩ := hS.call [0] (by decide) rfl (l' := [Mem.one g_2 (.cells ([p0_0] : List Value).toArray 23 (0, 0))]) (ow := []) rfl hS'
        replace hS : Sep w0 w_246 [N_248, Mem.one g_2 (.cells ([p0_0] : List Value).toArray 23 (0, 0)), Mem.one g_4 (.cells ([.int .i64 0, .int .i64 0, .int .i64 0, .int .i64 0, .int .i64 0, .int .i64 0, .bool false, .int .i64 0, .int .i64 0, .int .i64 0, .int .i64 0, .slice none 0 0, .int .i64 0, .int .i64 0, .slice none 0 0, .slice none 0 0, .int .i64 0, .int .i64 0, .int .i64 0, .int .i64 0, .int .i64 0, .slice none 0 0, .slice none 0 0, .slice none 0 0] : List Value).toArray 29 (0, 0)), Mem.one g_26 (.cells ([.int .i64 7, .int .i64 (band .i64 t_5 3), .int .i64 (band .i64 (shr .i64 t_9 2) 3), .int .i64 (band .i64 (shr .i64 t_13 4) 255), .int .i64 0, .int .i64 0, .bool false, .int .i64 0, .int .i64 0, .int .i64 0, .int .i64 0, .slice none 0 0, .int .i64 (band .i64 t_17 4095), .int .i64 (band .i64 (shr .i64 t_21 12) 63), v_198, .slice none 0 0, .int .i64 0, .int .i64 0, .int .i64 0, .int .i64 0, .int .i64 0, .slice none 0 0, .slice none 0 0, .slice none 0 0] : List Value).toArray 29 (0, 0)), M_196] Z := hS''
        clear hS' hS''
        refine wpList_nil ?_
        refine x_then_n ⟨(hS.sub (.cons le_248 (.cons (Mem.le.refl _) (.cons (Mem.le.refl _) (.cons (Mem.no_le _) (.cons (Mem.no_le _) (Sub.nil _))))))), ?_⟩
        refine h_take 8 [true, true, true, true, true, true, true, true, true, false, false, false, false, false, false].toArray rfl (by kernel_rfl) (by kernel_rfl) (by kernel_rfl) (fun _ _ _ _ h => h) rfl rfl rfl rfl hm (hS.sub (.cons le_248 (.cons (Mem.le.refl _) (.cons (Mem.le.refl _) (.cons (Mem.no_le _) (.cons (Mem.no_le _) (Sub.nil _))))))) (v := .int .i64 (band .i64 t_211 15)) (fun w hS => r_bits (i := t_211) (j := 15) (r := band .i64 t_211 15) hm rfl rfl (.inl ⟨rfl, rfl⟩)) ?_
        clear hm a; intro a hm
        refine h_take 9 [true, true, true, true, true, true, true, true, true, true, false, false, false, false, false].toArray rfl (by kernel_rfl) (by kernel_rfl) (by kernel_rfl) (fun _ _ _ _ h => h) rfl rfl rfl rfl hm (hS.sub (.cons le_248 (.cons (Mem.le.refl _) (.cons (Mem.le.refl _) (.cons (Mem.no_le _) (.cons (Mem.no_le _) (Sub.nil _))))))) (v := .int .i64 (w64 ((band .i64 (shr .i64 t_21 12) 63) - (band .i64 t_211 15)))) (fun w hS => r_arith (r := w64 ((band .i64 (shr .i64 t_21 12) 63) - (band .i64 t_211 15))) hm rfl rfl (.inr (.inl ⟨rfl, rfl⟩))) ?_
        clear hm a; intro a hm
        refine h_take 10 [true, true, true, true, true, true, true, true, true, true, true, false, false, false, false].toArray rfl (by kernel_rfl) (by kernel_rfl) (by kernel_rfl) (fun _ _ _ _ h => h) rfl rfl rfl rfl hm (hS.sub (.cons le_248 (.cons (Mem.le.refl _) (.cons (Mem.le.refl _) (.cons (Mem.no_le _) (.cons (Mem.no_le _) (Sub.nil _))))))) (v := .int .i64 (mx (w64 ((band .i64 (shr .i64 t_21 12) 63) - (band .i64 t_211 15))) 0)) (fun w hS => r_max hm rfl rfl) ?_
        clear hm a; intro a hm
        refine h_event 11 [true, true, true, true, true, true, true, true, true, true, true, true, false, false, false].toArray rfl (by kernel_rfl) rfl ?_
        have hq_253 : Reps (Kd.int .i64) Mem.no ([mx (w64 ((band .i64 (shr .i64 t_21 12) 63) - (band .i64 t_211 15))) 0] : List Int) _ := ((Reps.one (d := (Kd.int .i64)) (x := mx (w64 ((band .i64 (shr .i64 t_21 12) 63) - (band .i64 t_211 15))) 0) (show (Kd.int .i64).K _ _ [.int .i64 (mx (w64 ((band .i64 (shr .i64 t_21 12) 63) - (band .i64 t_211 15))) 0)] from rfl)).append (Reps.nil (Kd.int .i64) _))
        refine s_buildSlice hm rfl Try.underlying23 ti3 rfl rfl rfl (.cons rfl .nil) rfl rfl rfl hS hq_253 rfl ?_
        intro w_249 v_250 M_251 hS' ho_252
        clear hm a; intro a hm
        replace hS : Sep w0 w_249 [N_248, Mem.one g_2 (.cells ([p0_0] : List Value).toArray 23 (0, 0)), Mem.one g_4 (.cells ([.int .i64 0, .int .i64 0, .int .i64 0, .int .i64 0, .int .i64 0, .int .i64 0, .bool false, .int .i64 0, .int .i64 0, .int .i64 0, .int .i64 0, .slice none 0 0, .int .i64 0, .int .i64 0, .slice none 0 0, .slice none 0 0, .int .i64 0, .int .i64 0, .int .i64 0, .int .i64 0, .int .i64 0, .slice none 0 0, .slice none 0 0, .slice none 0 0] : List Value).toArray 29 (0, 0)), Mem.one g_26 (.cells ([.int .i64 7, .int .i64 (band .i64 t_5 3), .int .i64 (band .i64 (shr .i64 t_9 2) 3), .int .i64 (band .i64 (shr .i64 t_13 4) 255), .int .i64 0, .int .i64 0, .bool false, .int .i64 0, .int .i64 0, .int .i64 0, .int .i64 0, .slice none 0 0, .int .i64 (band .i64 t_17 4095), .int .i64 (band .i64 (shr .i64 t_21 12) 63), v_198, .slice none 0 0, .int .i64 0, .int .i64 0, .int .i64 0, .int .i64 0, .int .i64 0, .slice none 0 0, .slice none 0 0, .slice none 0 0] : List Value).toArray 29 (0, 0)), M_196, M_251] Z := hS'
        clear hS' hq_253
        refine wpList_nil ?_
        refine x_then_n ⟨(hS.sub (.cons le_248 (.cons (Mem.le.refl _) (.cons (Mem.le.refl _) (.cons (Mem.no_le _) (.cons (Mem.no_le _) (Sub.nil _))))))), ?_⟩
        refine h_event 12 [true, true, true, true, true, true, true, true, true, true, true, true, true, false, false].toArray rfl (by kernel_rfl) rfl ?_
        refine s_append (J := Mem.no) (I' := Mem.no) (p := 4) 17592186044416 hm rfl rfl rfl Try.underlying23 ti3 rfl rfl rfl rfl hS rfl ho_199 (Src.flat (flat_int .i64) (ho_252.src (hS.own 5))) (Mem.le.refl _) (Mem.le.refl _) et_221 ?_
        intro w_256 v_257 M_258 hS' ho_259
        clear hm a; intro a hm
        replace hS : Sep w0 w_256 [N_248, Mem.one g_2 (.cells ([p0_0] : List Value).toArray 23 (0, 0)), Mem.one g_4 (.cells ([.int .i64 0, .int .i64 0, .int .i64 0, .int .i64 0, .int .i64 0, .int .i64 0, .bool false, .int .i64 0, .int .i64 0, .int .i64 0, .int .i64 0, .slice none 0 0, .int .i64 0, .int .i64 0, .slice none 0 0, .slice none 0 0, .int .i64 0, .int .i64 0, .int .i64 0, .int .i64 0, .int .i64 0, .slice none 0 0, .slice none 0 0, .slice none 0 0] : List Value).toArray 29 (0, 0)), Mem.one g_26 (.cells ([.int .i64 7, .int .i64 (band .i64 t_5 3), .int .i64 (band .i64 (shr .i64 t_9 2) 3), .int .i64 (band .i64 (shr .i64 t_13 4) 255), .int .i64 0, .int .i64 0, .bool false, .int .i64 0, .int .i64 0, .int .i64 0, .int .i64 0, .slice none 0 0, .int .i64 (band .i64 t_17 4095), .int .i64 (band .i64 (shr .i64 t_21 12) 63), v_198, .slice none 0 0, .int .i64 0, .int .i64 0, .int .i64 0, .int .i64 0, .int .i64 0, .slice none 0 0, .slice none 0 0, .slice none 0 0] : List Value).toArray 29 (0, 0)), M_258, M_251] Z := hS'
        clear hS'
        refine wpList_nil ?_
        refine x_then_n ⟨(hS.sub (.cons le_248 (.cons (Mem.le.refl _) (.cons (Mem.le.refl _) (.cons (Mem.no_le _) (.cons (Mem.no_le _) (Sub.nil _))))))), ?_⟩
        refine h_take 13 [true, true, true, true, true, true, true, true, true, true, true, true, true, true, false].toArray rfl (by kernel_rfl) (by kernel_rfl) (by kernel_rfl) (fun _ _ _ _ h => h) rfl rfl rfl rfl hm (hS.sub (.cons le_248 (.cons (Mem.le.refl _) (.cons (Mem.le.refl _) (.cons (Mem.no_le _) (.cons (Mem.no_le _) (Sub.nil _))))))) (v := .pointer (some ⟨g_26, 14, none⟩)) (fun w hS => r_fieldAddr hm Try.underlying29 rfl ti23 rfl rfl rfl) ?_
        clear hm a; intro a hm
        refine h_event 14 [true, true, true, true, true, true, true, true, true, true, true, true, true, true, true].toArray rfl (by kernel_rfl) rfl ?_
        obtain ⟨w_261, hs', hS'⟩ := hS.store (P := Try.prog) (p := 3) (o := 14) (t := 23) (v := v_257) (vs := [v_257]) rfl ti23 ho_259.cellsA rfl rfl (by intro u hu; simp only [List.mem_cons, List.not_mem_nil, or_false] at hu; rcases hu with rfl <;> first | rfl | exact ho_259.one)
        refine s_store hm rfl rfl hs' ?_
        replace hS : Sep w0 w_261 [N_248, Mem.one g_2 (.cells ([p0_0] : List Value).toArray 23 (0, 0)), Mem.one g_4 (.cells ([.int .i64 0, .int .i64 0, .int .i64 0, .int .i64 0, .int .i64 0, .int .i64 0, .bool false, .int .i64 0, .int .i64 0, .int .i64 0, .int .i64 0, .slice none 0 0, .int .i64 0, .int .i64 0, .slice none 0 0, .slice none 0 0, .int .i64 0, .int .i64 0, .int .i64 0, .int .i64 0, .int .i64 0, .slice none 0 0, .slice none 0 0, .slice none 0 0] : List Value).toArray 29 (0, 0)), Mem.one g_26 (.cells ([.int .i64 7, .int .i64 (band .i64 t_5 3), .int .i64 (band .i64 (shr .i64 t_9 2) 3), .int .i64 (band .i64 (shr .i64 t_13 4) 255), .int .i64 0, .int .i64 0, .bool false, .int .i64 0, .int .i64 0, .int .i64 0, .int .i64 0, .slice none 0 0, .int .i64 (band .i64 t_17 4095), .int .i64 (band .i64 (shr .i64 t_21 12) 63), v_257, .slice none 0 0, .int .i64 0, .int .i64 0, .int .i64 0, .int .i64 0, .int .i64 0, .slice none 0 0, .slice none 0 0, .slice none 0 0] : List Value).toArray 29 (0, 0)), M_258, M_251] Z := hS'
        clear hs' hS'
        refine wpList_nil ?_
        refine x_then_n ⟨(hS.sub (.cons le_248 (.cons (Mem.le.refl _) (.cons (Mem.le.refl _) (.cons (Mem.no_le _) (.cons (Mem.no_le _) (Sub.nil _))))))), ?_⟩
        refine h_done (by kernel_rfl) ?_
        replace hm : Fr 72 a [(2, .pointer (some ⟨g_4, 0, none⟩)), (3, .func (.func 65) #[] [.pointer (some ⟨g_2, 0, none⟩)].toArray), (4, .pointer (some ⟨g_26, 0, none⟩)), (5, .int .i64 x_194)] := hm.keep [2, 3, 4, 5]
        refine x_block_n ?_
        refine x_then_n (hKJ_209 _ _ ?_)
        refine wp_region_lit ?_
        refine s_move hm rfl rfl ?_
        clear hm a; intro a hm
        refine s_arith (r := w64 (x_194 + 1)) hm rfl rfl rfl (.inl ⟨rfl, rfl⟩) ?_
        clear hm a; intro a hm
        refine s_assign hm rfl rfl ?_
        clear hm a; intro a hm
        refine wpList_nil ?_
        replace hm : Fr 72 a [(2, .pointer (some ⟨g_4, 0, none⟩)), (3, .func (.func 65) #[] [.pointer (some ⟨g_2, 0, none⟩)].toArray), (4, .pointer (some ⟨g_26, 0, none⟩)), (5, .int .i64 (w64 (x_194 + 1)))] := hm.keep [2, 3, 4, 5]
        refine x_then_n (hKL_200 _ _ ?_)
        replace hS : Sep w0 w_261 [N_248, Mem.one g_2 (.cells ([p0_0] : List Value).toArray 23 (0, 0)), Mem.one g_4 (.cells ([.int .i64 0, .int .i64 0, .int .i64 0, .int .i64 0, .int .i64 0, .int .i64 0, .bool false, .int .i64 0, .int .i64 0, .int .i64 0, .int .i64 0, .slice none 0 0, .int .i64 0, .int .i64 0, .slice none 0 0, .slice none 0 0, .int .i64 0, .int .i64 0, .int .i64 0, .int .i64 0, .int .i64 0, .slice none 0 0, .slice none 0 0, .slice none 0 0] : List Value).toArray 29 (0, 0)), Mem.one g_26 (.cells ([.int .i64 7, .int .i64 (band .i64 t_5 3), .int .i64 (band .i64 (shr .i64 t_9 2) 3), .int .i64 (band .i64 (shr .i64 t_13 4) 255), .int .i64 0, .int .i64 0, .bool false, .int .i64 0, .int .i64 0, .int .i64 0, .int .i64 0, .slice none 0 0, .int .i64 (band .i64 t_17 4095), .int .i64 (band .i64 (shr .i64 t_21 12) 63), v_257, .slice none 0 0, .int .i64 0, .int .i64 0, .int .i64 0, .int .i64 0, .int .i64 0, .slice none 0 0, .slice none 0 0, .slice none 0 0] : List Value).toArray 29 (0, 0)), M_258, M_251] Z := hS
        replace hm : Fr 72 a [(2, .pointer (some ⟨g_4, 0, none⟩)), (3, .func (.func 65) #[] [.pointer (some ⟨g_2, 0, none⟩)].toArray), (4, .pointer (some ⟨g_26, 0, none⟩)), (5, .int .i64 (w64 (x_194 + 1)))] := hm.keep [2, 3, 4, 5]
        exact ⟨w64 (x_194 + 1), t_221, v_257, N_248, M_258, H, hm, (Sep.sel hS [0, 1, 2, 3, 4] (by decide)), (le_193.trans (le_207.trans le_248)), ho_259⟩
      · refine ⟨_, [true, false, true, true, true, true, true, true, false, false, false, false, false, false, false].toArray, rfl, rfl, ?_⟩
        refine s_callv hm rfl rfl Try.call65 rfl (hocketlaw17_Token_1.calls (w64 (x_194 + 3)) _ x0 _ t_211 w0 _ _ _ (Mem.le.refl _) (hS.enter [0] (by decide)) (hp0_0.mono (hA.trans (hS.le_zed [0]))) et_211) ?_
        rintro _ w_263 ⟨N_264, rfl, hS'⟩
        clear hm a; intro a hm
        obtain ⟨N_265, hS'', le_265, ln_265⟩ := hS.call [0] (by decide) rfl (l' := [Mem.one g_2 (.cells ([p0_0] : List Value).toArray 23 (0, 0))]) (ow := []) rfl hS'
        replace hS : Sep w0 w_263 [N_265, Mem.one g_2 (.cells ([p0_0] : List Value).toArray 23 (0, 0)), Mem.one g_4 (.cells ([.int .i64 0, .int .i64 0, .int .i64 0, .int .i64 0, .int .i64 0, .int .i64 0, .bool false, .int .i64 0, .int .i64 0, .int .i64 0, .int .i64 0, .slice none 0 0, .int .i64 0, .int .i64 0, .slice none 0 0, .slice none 0 0, .int .i64 0, .int .i64 0, .int .i64 0, .int .i64 0, .int .i64 0, .slice none 0 0, .slice none 0 0, .slice none 0 0] : List Value).toArray 29 (0, 0)), Mem.one g_26 (.cells ([.int .i64 7, .int .i64 (band .i64 t_5 3), .int .i64 (band .i64 (shr .i64 t_9 2) 3), .int .i64 (band .i64 (shr .i64 t_13 4) 255), .int .i64 0, .int .i64 0, .bool false, .int .i64 0, .int .i64 0, .int .i64 0, .int .i64 0, .slice none 0 0, .int .i64 (band .i64 t_17 4095), .int .i64 (band .i64 (shr .i64 t_21 12) 63), v_198, .slice none 0 0, .int .i64 0, .int .i64 0, .int .i64 0, .int .i64 0, .int .i64 0, .slice none 0 0, .slice none 0 0, .slice none 0 0] : List Value).toArray 29 (0, 0)), M_196] Z := hS''
        clear hS' hS''
        refine wpList_nil ?_
        refine x_then_n ⟨(hS.sub (.cons le_265 (.cons (Mem.le.refl _) (.cons (Mem.le.refl _) (.cons (Mem.no_le _) (.cons (Mem.no_le _) (Sub.nil _))))))), ?_⟩
        refine h_take 8 [true, false, true, true, true, true, true, true, true, false, false, false, false, false, false].toArray rfl (by kernel_rfl) (by kernel_rfl) (by kernel_rfl) (fun _ _ _ _ h => h) rfl rfl rfl rfl hm (hS.sub (.cons le_265 (.cons (Mem.le.refl _) (.cons (Mem.le.refl _) (.cons (Mem.no_le _) (.cons (Mem.no_le _) (Sub.nil _))))))) (v := .int .i64 (band .i64 t_211 15)) (fun w hS => r_bits (i := t_211) (j := 15) (r := band .i64 t_211 15) hm rfl rfl (.inl ⟨rfl, rfl⟩)) ?_
        clear hm a; intro a hm
        refine h_take 9 [true, false, true, true, true, true, true, true, true, true, false, false, false, false, false].toArray rfl (by kernel_rfl) (by kernel_rfl) (by kernel_rfl) (fun _ _ _ _ h => h) rfl rfl rfl rfl hm (hS.sub (.cons le_265 (.cons (Mem.le.refl _) (.cons (Mem.le.refl _) (.cons (Mem.no_le _) (.cons (Mem.no_le _) (Sub.nil _))))))) (v := .int .i64 (w64 ((band .i64 (shr .i64 t_21 12) 63) - (band .i64 t_211 15)))) (fun w hS => r_arith (r := w64 ((band .i64 (shr .i64 t_21 12) 63) - (band .i64 t_211 15))) hm rfl rfl (.inr (.inl ⟨rfl, rfl⟩))) ?_
        clear hm a; intro a hm
        refine h_take 10 [true, false, true, true, true, true, true, true, true, true, true, false, false, false, false].toArray rfl (by kernel_rfl) (by kernel_rfl) (by kernel_rfl) (fun _ _ _ _ h => h) rfl rfl rfl rfl hm (hS.sub (.cons le_265 (.cons (Mem.le.refl _) (.cons (Mem.le.refl _) (.cons (Mem.no_le _) (.cons (Mem.no_le _) (Sub.nil _))))))) (v := .int .i64 (mx (w64 ((band .i64 (shr .i64 t_21 12) 63) - (band .i64 t_211 15))) 0)) (fun w hS => r_max hm rfl rfl) ?_
        clear hm a; intro a hm
        refine h_events [1, 11] (by kernel_rfl) (by simp) ?_
        intro i hi; simp only [List.mem_cons, List.not_mem_nil, or_false] at hi; rcases hi with rfl | rfl
        · refine ⟨_, [true, true, true, true, true, true, true, true, true, true, true, false, false, false, false].toArray, rfl, rfl, ?_⟩
          refine s_load hm rfl rfl (hS.load_one (p := 3) rfl Try.underlying23 rfl rfl) ?_
          clear hm a; intro a hm
          refine wpList_nil ?_
          refine x_then_n ⟨(hS.sub (.cons le_265 (.cons (Mem.le.refl _) (.cons (Mem.le.refl _) (.cons (Mem.no_le _) (.cons (Mem.no_le _) (Sub.nil _))))))), ?_⟩
          refine h_event 11 [true, true, true, true, true, true, true, true, true, true, true, true, false, false, false].toArray rfl (by kernel_rfl) rfl ?_
          have hq_270 : Reps (Kd.int .i64) Mem.no ([mx (w64 ((band .i64 (shr .i64 t_21 12) 63) - (band .i64 t_211 15))) 0] : List Int) _ := ((Reps.one (d := (Kd.int .i64)) (x := mx (w64 ((band .i64 (shr .i64 t_21 12) 63) - (band .i64 t_211 15))) 0) (show (Kd.int .i64).K _ _ [.int .i64 (mx (w64 ((band .i64 (shr .i64 t_21 12) 63) - (band .i64 t_211 15))) 0)] from rfl)).append (Reps.nil (Kd.int .i64) _))
          refine s_buildSlice hm rfl Try.underlying23 ti3 rfl rfl rfl (.cons rfl .nil) rfl rfl rfl hS hq_270 rfl ?_
          intro w_266 v_267 M_268 hS' ho_269
          clear hm a; intro a hm
          replace hS : Sep w0 w_266 [N_265, Mem.one g_2 (.cells ([p0_0] : List Value).toArray 23 (0, 0)), Mem.one g_4 (.cells ([.int .i64 0, .int .i64 0, .int .i64 0, .int .i64 0, .int .i64 0, .int .i64 0, .bool false, .int .i64 0, .int .i64 0, .int .i64 0, .int .i64 0, .slice none 0 0, .int .i64 0, .int .i64 0, .slice none 0 0, .slice none 0 0, .int .i64 0, .int .i64 0, .int .i64 0, .int .i64 0, .int .i64 0, .slice none 0 0, .slice none 0 0, .slice none 0 0] : List Value).toArray 29 (0, 0)), Mem.one g_26 (.cells ([.int .i64 7, .int .i64 (band .i64 t_5 3), .int .i64 (band .i64 (shr .i64 t_9 2) 3), .int .i64 (band .i64 (shr .i64 t_13 4) 255), .int .i64 0, .int .i64 0, .bool false, .int .i64 0, .int .i64 0, .int .i64 0, .int .i64 0, .slice none 0 0, .int .i64 (band .i64 t_17 4095), .int .i64 (band .i64 (shr .i64 t_21 12) 63), v_198, .slice none 0 0, .int .i64 0, .int .i64 0, .int .i64 0, .int .i64 0, .int .i64 0, .slice none 0 0, .slice none 0 0, .slice none 0 0] : List Value).toArray 29 (0, 0)), M_196, M_268] Z := hS'
          clear hS' hq_270
          refine wpList_nil ?_
          refine x_then_n ⟨(hS.sub (.cons le_265 (.cons (Mem.le.refl _) (.cons (Mem.le.refl _) (.cons (Mem.no_le _) (.cons (Mem.no_le _) (Sub.nil _))))))), ?_⟩
          refine h_event 12 [true, true, true, true, true, true, true, true, true, true, true, true, true, false, false].toArray rfl (by kernel_rfl) rfl ?_
          refine s_append (J := Mem.no) (I' := Mem.no) (p := 4) 17592186044416 hm rfl rfl rfl Try.underlying23 ti3 rfl rfl rfl rfl hS rfl ho_199 (Src.flat (flat_int .i64) (ho_269.src (hS.own 5))) (Mem.le.refl _) (Mem.le.refl _) et_221 ?_
          intro w_273 v_274 M_275 hS' ho_276
          clear hm a; intro a hm
          replace hS : Sep w0 w_273 [N_265, Mem.one g_2 (.cells ([p0_0] : List Value).toArray 23 (0, 0)), Mem.one g_4 (.cells ([.int .i64 0, .int .i64 0, .int .i64 0, .int .i64 0, .int .i64 0, .int .i64 0, .bool false, .int .i64 0, .int .i64 0, .int .i64 0, .int .i64 0, .slice none 0 0, .int .i64 0, .int .i64 0, .slice none 0 0, .slice none 0 0, .int .i64 0, .int .i64 0, .int .i64 0, .int .i64 0, .int .i64 0, .slice none 0 0, .slice none 0 0, .slice none 0 0] : List Value).toArray 29 (0, 0)), Mem.one g_26 (.cells ([.int .i64 7, .int .i64 (band .i64 t_5 3), .int .i64 (band .i64 (shr .i64 t_9 2) 3), .int .i64 (band .i64 (shr .i64 t_13 4) 255), .int .i64 0, .int .i64 0, .bool false, .int .i64 0, .int .i64 0, .int .i64 0, .int .i64 0, .slice none 0 0, .int .i64 (band .i64 t_17 4095), .int .i64 (band .i64 (shr .i64 t_21 12) 63), v_198, .slice none 0 0, .int .i64 0, .int .i64 0, .int .i64 0, .int .i64 0, .int .i64 0, .slice none 0 0, .slice none 0 0, .slice none 0 0] : List Value).toArray 29 (0, 0)), M_275, M_268] Z := hS'
          clear hS'
          refine wpList_nil ?_
          refine x_then_n ⟨(hS.sub (.cons le_265 (.cons (Mem.le.refl _) (.cons (Mem.le.refl _) (.cons (Mem.no_le _) (.cons (Mem.no_le _) (Sub.nil _))))))), ?_⟩
          refine h_take 13 [true, true, true, true, true, true, true, true, true, true, true, true, true, true, false].toArray rfl (by kernel_rfl) (by kernel_rfl) (by kernel_rfl) (fun _ _ _ _ h => h) rfl rfl rfl rfl hm (hS.sub (.cons le_265 (.cons (Mem.le.refl _) (.cons (Mem.le.refl _) (.cons (Mem.no_le _) (.cons (Mem.no_le _) (Sub.nil _))))))) (v := .pointer (some ⟨g_26, 14, none⟩)) (fun w hS => r_fieldAddr hm Try.underlying29 rfl ti23 rfl rfl rfl) ?_
          clear hm a; intro a hm
          refine h_event 14 [true, true, true, true, true, true, true, true, true, true, true, true, true, true, true].toArray rfl (by kernel_rfl) rfl ?_
          obtain ⟨w_278, hs', hS'⟩ := hS.store (P := Try.prog) (p := 3) (o := 14) (t := 23) (v := v_274) (vs := [v_274]) rfl ti23 ho_276.cellsA rfl rfl (by intro u hu; simp only [List.mem_cons, List.not_mem_nil, or_false] at hu; rcases hu with rfl <;> first | rfl | exact ho_276.one)
          refine s_store hm rfl rfl hs' ?_
          replace hS : Sep w0 w_278 [N_265, Mem.one g_2 (.cells ([p0_0] : List Value).toArray 23 (0, 0)), Mem.one g_4 (.cells ([.int .i64 0, .int .i64 0, .int .i64 0, .int .i64 0, .int .i64 0, .int .i64 0, .bool false, .int .i64 0, .int .i64 0, .int .i64 0, .int .i64 0, .slice none 0 0, .int .i64 0, .int .i64 0, .slice none 0 0, .slice none 0 0, .int .i64 0, .int .i64 0, .int .i64 0, .int .i64 0, .int .i64 0, .slice none 0 0, .slice none 0 0, .slice none 0 0] : List Value).toArray 29 (0, 0)), Mem.one g_26 (.cells ([.int .i64 7, .int .i64 (band .i64 t_5 3), .int .i64 (band .i64 (shr .i64 t_9 2) 3), .int .i64 (band .i64 (shr .i64 t_13 4) 255), .int .i64 0, .int .i64 0, .bool false, .int .i64 0, .int .i64 0, .int .i64 0, .int .i64 0, .slice none 0 0, .int .i64 (band .i64 t_17 4095), .int .i64 (band .i64 (shr .i64 t_21 12) 63), v_274, .slice none 0 0, .int .i64 0, .int .i64 0, .int .i64 0, .int .i64 0, .int .i64 0, .slice none 0 0, .slice none 0 0, .slice none 0 0] : List Value).toArray 29 (0, 0)), M_275, M_268] Z := hS'
          clear hs' hS'
          refine wpList_nil ?_
          refine x_then_n ⟨(hS.sub (.cons le_265 (.cons (Mem.le.refl _) (.cons (Mem.le.refl _) (.cons (Mem.no_le _) (.cons (Mem.no_le _) (Sub.nil _))))))), ?_⟩
          refine h_done (by kernel_rfl) ?_
          replace hm : Fr 72 a [(2, .pointer (some ⟨g_4, 0, none⟩)), (3, .func (.func 65) #[] [.pointer (some ⟨g_2, 0, none⟩)].toArray), (4, .pointer (some ⟨g_26, 0, none⟩)), (5, .int .i64 x_194)] := hm.keep [2, 3, 4, 5]
          refine x_block_n ?_
          refine x_then_n (hKJ_209 _ _ ?_)
          refine wp_region_lit ?_
          refine s_move hm rfl rfl ?_
          clear hm a; intro a hm
          refine s_arith (r := w64 (x_194 + 1)) hm rfl rfl rfl (.inl ⟨rfl, rfl⟩) ?_
          clear hm a; intro a hm
          refine s_assign hm rfl rfl ?_
          clear hm a; intro a hm
          refine wpList_nil ?_
          replace hm : Fr 72 a [(2, .pointer (some ⟨g_4, 0, none⟩)), (3, .func (.func 65) #[] [.pointer (some ⟨g_2, 0, none⟩)].toArray), (4, .pointer (some ⟨g_26, 0, none⟩)), (5, .int .i64 (w64 (x_194 + 1)))] := hm.keep [2, 3, 4, 5]
          refine x_then_n (hKL_200 _ _ ?_)
          replace hS : Sep w0 w_278 [N_265, Mem.one g_2 (.cells ([p0_0] : List Value).toArray 23 (0, 0)), Mem.one g_4 (.cells ([.int .i64 0, .int .i64 0, .int .i64 0, .int .i64 0, .int .i64 0, .int .i64 0, .bool false, .int .i64 0, .int .i64 0, .int .i64 0, .int .i64 0, .slice none 0 0, .int .i64 0, .int .i64 0, .slice none 0 0, .slice none 0 0, .int .i64 0, .int .i64 0, .int .i64 0, .int .i64 0, .int .i64 0, .slice none 0 0, .slice none 0 0, .slice none 0 0] : List Value).toArray 29 (0, 0)), Mem.one g_26 (.cells ([.int .i64 7, .int .i64 (band .i64 t_5 3), .int .i64 (band .i64 (shr .i64 t_9 2) 3), .int .i64 (band .i64 (shr .i64 t_13 4) 255), .int .i64 0, .int .i64 0, .bool false, .int .i64 0, .int .i64 0, .int .i64 0, .int .i64 0, .slice none 0 0, .int .i64 (band .i64 t_17 4095), .int .i64 (band .i64 (shr .i64 t_21 12) 63), v_274, .slice none 0 0, .int .i64 0, .int .i64 0, .int .i64 0, .int .i64 0, .int .i64 0, .slice none 0 0, .slice none 0 0, .slice none 0 0] : List Value).toArray 29 (0, 0)), M_275, M_268] Z := hS
          replace hm : Fr 72 a [(2, .pointer (some ⟨g_4, 0, none⟩)), (3, .func (.func 65) #[] [.pointer (some ⟨g_2, 0, none⟩)].toArray), (4, .pointer (some ⟨g_26, 0, none⟩)), (5, .int .i64 (w64 (x_194 + 1)))] := hm.keep [2, 3, 4, 5]
          exact ⟨w64 (x_194 + 1), t_221, v_274, N_265, M_275, H, hm, (Sep.sel hS [0, 1, 2, 3, 4] (by decide)), (le_193.trans (le_207.trans le_265)), ho_276⟩
        · refine ⟨_, [true, false, true, true, true, true, true, true, true, true, true, true, false, false, false].toArray, rfl, rfl, ?_⟩
          have hq_283 : Reps (Kd.int .i64) Mem.no ([mx (w64 ((band .i64 (shr .i64 t_21 12) 63) - (band .i64 t_211 15))) 0] : List Int) _ := ((Reps.one (d := (Kd.int .i64)) (x := mx (w64 ((band .i64 (shr .i64 t_21 12) 63) - (band .i64 t_211 15))) 0) (show (Kd.int .i64).K _ _ [.int .i64 (mx (w64 ((band .i64 (shr .i64 t_21 12) 63) - (band .i64 t_211 15))) 0)] from rfl)).append (Reps.nil (Kd.int .i64) _))
          refine s_buildSlice hm rfl Try.underlying23 ti3 rfl rfl rfl (.cons rfl .nil) rfl rfl rfl hS hq_283 rfl ?_
          intro w_279 v_280 M_281 hS' ho_282
          clear hm a; intro a hm
          replace hS : Sep w0 w_279 [N_265, Mem.one g_2 (.cells ([p0_0] : List Value).toArray 23 (0, 0)), Mem.one g_4 (.cells ([.int .i64 0, .int .i64 0, .int .i64 0, .int .i64 0, .int .i64 0, .int .i64 0, .bool false, .int .i64 0, .int .i64 0, .int .i64 0, .int .i64 0, .slice none 0 0, .int .i64 0, .int .i64 0, .slice none 0 0, .slice none 0 0, .int .i64 0, .int .i64 0, .int .i64 0, .int .i64 0, .int .i64 0, .slice none 0 0, .slice none 0 0, .slice none 0 0] : List Value).toArray 29 (0, 0)), Mem.one g_26 (.cells ([.int .i64 7, .int .i64 (band .i64 t_5 3), .int .i64 (band .i64 (shr .i64 t_9 2) 3), .int .i64 (band .i64 (shr .i64 t_13 4) 255), .int .i64 0, .int .i64 0, .bool false, .int .i64 0, .int .i64 0, .int .i64 0, .int .i64 0, .slice none 0 0, .int .i64 (band .i64 t_17 4095), .int .i64 (band .i64 (shr .i64 t_21 12) 63), v_198, .slice none 0 0, .int .i64 0, .int .i64 0, .int .i64 0, .int .i64 0, .int .i64 0, .slice none 0 0, .slice none 0 0, .slice none 0 0] : List Value).toArray 29 (0, 0)), M_196, M_281] Z := hS'
          clear hS' hq_283
          refine wpList_nil ?_
          refine x_then_n ⟨(hS.sub (.cons le_265 (.cons (Mem.le.refl _) (.cons (Mem.le.refl _) (.cons (Mem.no_le _) (.cons (Mem.no_le _) (Sub.nil _))))))), ?_⟩
          refine h_event 1 [true, true, true, true, true, true, true, true, true, true, true, true, false, false, false].toArray rfl (by kernel_rfl) rfl ?_
          refine s_load hm rfl rfl (hS.load_one (p := 3) rfl Try.underlying23 rfl rfl) ?_
          clear hm a; intro a hm
          refine wpList_nil ?_
          refine x_then_n ⟨(hS.sub (.cons le_265 (.cons (Mem.le.refl _) (.cons (Mem.le.refl _) (.cons (Mem.no_le _) (.cons (Mem.no_le _) (Sub.nil _))))))), ?_⟩
          refine h_event 12 [true, true, true, true, true, true, true, true, true, true, true, true, true, false, false].toArray rfl (by kernel_rfl) rfl ?_
          refine s_append (J := Mem.no) (I' := Mem.no) (p := 4) 17592186044416 hm rfl rfl rfl Try.underlying23 ti3 rfl rfl rfl rfl hS rfl ho_199 (Src.flat (flat_int .i64) (ho_282.src (hS.own 5))) (Mem.le.refl _) (Mem.le.refl _) et_221 ?_
          intro w_286 v_287 M_288 hS' ho_289
          clear hm a; intro a hm
          replace hS : Sep w0 w_286 [N_265, Mem.one g_2 (.cells ([p0_0] : List Value).toArray 23 (0, 0)), Mem.one g_4 (.cells ([.int .i64 0, .int .i64 0, .int .i64 0, .int .i64 0, .int .i64 0, .int .i64 0, .bool false, .int .i64 0, .int .i64 0, .int .i64 0, .int .i64 0, .slice none 0 0, .int .i64 0, .int .i64 0, .slice none 0 0, .slice none 0 0, .int .i64 0, .int .i64 0, .int .i64 0, .int .i64 0, .int .i64 0, .slice none 0 0, .slice none 0 0, .slice none 0 0] : List Value).toArray 29 (0, 0)), Mem.one g_26 (.cells ([.int .i64 7, .int .i64 (band .i64 t_5 3), .int .i64 (band .i64 (shr .i64 t_9 2) 3), .int .i64 (band .i64 (shr .i64 t_13 4) 255), .int .i64 0, .int .i64 0, .bool false, .int .i64 0, .int .i64 0, .int .i64 0, .int .i64 0, .slice none 0 0, .int .i64 (band .i64 t_17 4095), .int .i64 (band .i64 (shr .i64 t_21 12) 63), v_198, .slice none 0 0, .int .i64 0, .int .i64 0, .int .i64 0, .int .i64 0, .int .i64 0, .slice none 0 0, .slice none 0 0, .slice none 0 0] : List Value).toArray 29 (0, 0)), M_288, M_281] Z := hS'
          clear hS'
          refine wpList_nil ?_
          refine x_then_n ⟨(hS.sub (.cons le_265 (.cons (Mem.le.refl _) (.cons (Mem.le.refl _) (.cons (Mem.no_le _) (.cons (Mem.no_le _) (Sub.nil _))))))), ?_⟩
          refine h_take 13 [true, true, true, true, true, true, true, true, true, true, true, true, true, true, false].toArray rfl (by kernel_rfl) (by kernel_rfl) (by kernel_rfl) (fun _ _ _ _ h => h) rfl rfl rfl rfl hm (hS.sub (.cons le_265 (.cons (Mem.le.refl _) (.cons (Mem.le.refl _) (.cons (Mem.no_le _) (.cons (Mem.no_le _) (Sub.nil _))))))) (v := .pointer (some ⟨g_26, 14, none⟩)) (fun w hS => r_fieldAddr hm Try.underlying29 rfl ti23 rfl rfl rfl) ?_
          clear hm a; intro a hm
          refine h_event 14 [true, true, true, true, true, true, true, true, true, true, true, true, true, true, true].toArray rfl (by kernel_rfl) rfl ?_
          obtain ⟨w_291, hs', hS'⟩ := hS.store (P := Try.prog) (p := 3) (o := 14) (t := 23) (v := v_287) (vs := [v_287]) rfl ti23 ho_289.cellsA rfl rfl (by intro u hu; simp only [List.mem_cons, List.not_mem_nil, or_false] at hu; rcases hu with rfl <;> first | rfl | exact ho_289.one)
          refine s_store hm rfl rfl hs' ?_
          replace hS : Sep w0 w_291 [N_265, Mem.one g_2 (.cells ([p0_0] : List Value).toArray 23 (0, 0)), Mem.one g_4 (.cells ([.int .i64 0, .int .i64 0, .int .i64 0, .int .i64 0, .int .i64 0, .int .i64 0, .bool false, .int .i64 0, .int .i64 0, .int .i64 0, .int .i64 0, .slice none 0 0, .int .i64 0, .int .i64 0, .slice none 0 0, .slice none 0 0, .int .i64 0, .int .i64 0, .int .i64 0, .int .i64 0, .int .i64 0, .slice none 0 0, .slice none 0 0, .slice none 0 0] : List Value).toArray 29 (0, 0)), Mem.one g_26 (.cells ([.int .i64 7, .int .i64 (band .i64 t_5 3), .int .i64 (band .i64 (shr .i64 t_9 2) 3), .int .i64 (band .i64 (shr .i64 t_13 4) 255), .int .i64 0, .int .i64 0, .bool false, .int .i64 0, .int .i64 0, .int .i64 0, .int .i64 0, .slice none 0 0, .int .i64 (band .i64 t_17 4095), .int .i64 (band .i64 (shr .i64 t_21 12) 63), v_287, .slice none 0 0, .int .i64 0, .int .i64 0, .int .i64 0, .int .i64 0, .int .i64 0, .slice none 0 0, .slice none 0 0, .slice none 0 0] : List Value).toArray 29 (0, 0)), M_288, M_281] Z := hS'
          clear hs' hS'
          refine wpList_nil ?_
          refine x_then_n ⟨(hS.sub (.cons le_265 (.cons (Mem.le.refl _) (.cons (Mem.le.refl _) (.cons (Mem.no_le _) (.cons (Mem.no_le _) (Sub.nil _))))))), ?_⟩
          refine h_done (by kernel_rfl) ?_
          replace hm : Fr 72 a [(2, .pointer (some ⟨g_4, 0, none⟩)), (3, .func (.func 65) #[] [.pointer (some ⟨g_2, 0, none⟩)].toArray), (4, .pointer (some ⟨g_26, 0, none⟩)), (5, .int .i64 x_194)] := hm.keep [2, 3, 4, 5]
          refine x_block_n ?_
          refine x_then_n (hKJ_209 _ _ ?_)
          refine wp_region_lit ?_
          refine s_move hm rfl rfl ?_
          clear hm a; intro a hm
          refine s_arith (r := w64 (x_194 + 1)) hm rfl rfl rfl (.inl ⟨rfl, rfl⟩) ?_
          clear hm a; intro a hm
          refine s_assign hm rfl rfl ?_
          clear hm a; intro a hm
          refine wpList_nil ?_
          replace hm : Fr 72 a [(2, .pointer (some ⟨g_4, 0, none⟩)), (3, .func (.func 65) #[] [.pointer (some ⟨g_2, 0, none⟩)].toArray), (4, .pointer (some ⟨g_26, 0, none⟩)), (5, .int .i64 (w64 (x_194 + 1)))] := hm.keep [2, 3, 4, 5]
          refine x_then_n (hKL_200 _ _ ?_)
          replace hS : Sep w0 w_291 [N_265, Mem.one g_2 (.cells ([p0_0] : List Value).toArray 23 (0, 0)), Mem.one g_4 (.cells ([.int .i64 0, .int .i64 0, .int .i64 0, .int .i64 0, .int .i64 0, .int .i64 0, .bool false, .int .i64 0, .int .i64 0, .int .i64 0, .int .i64 0, .slice none 0 0, .int .i64 0, .int .i64 0, .slice none 0 0, .slice none 0 0, .int .i64 0, .int .i64 0, .int .i64 0, .int .i64 0, .int .i64 0, .slice none 0 0, .slice none 0 0, .slice none 0 0] : List Value).toArray 29 (0, 0)), Mem.one g_26 (.cells ([.int .i64 7, .int .i64 (band .i64 t_5 3), .int .i64 (band .i64 (shr .i64 t_9 2) 3), .int .i64 (band .i64 (shr .i64 t_13 4) 255), .int .i64 0, .int .i64 0, .bool false, .int .i64 0, .int .i64 0, .int .i64 0, .int .i64 0, .slice none 0 0, .int .i64 (band .i64 t_17 4095), .int .i64 (band .i64 (shr .i64 t_21 12) 63), v_287, .slice none 0 0, .int .i64 0, .int .i64 0, .int .i64 0, .int .i64 0, .int .i64 0, .slice none 0 0, .slice none 0 0, .slice none 0 0] : List Value).toArray 29 (0, 0)), M_288, M_281] Z := hS
          replace hm : Fr 72 a [(2, .pointer (some ⟨g_4, 0, none⟩)), (3, .func (.func 65) #[] [.pointer (some ⟨g_2, 0, none⟩)].toArray), (4, .pointer (some ⟨g_26, 0, none⟩)), (5, .int .i64 (w64 (x_194 + 1)))] := hm.keep [2, 3, 4, 5]
          exact ⟨w64 (x_194 + 1), t_221, v_287, N_265, M_288, H, hm, (Sep.sel hS [0, 1, 2, 3, 4] (by decide)), (le_193.trans (le_207.trans le_265)), ho_289⟩
    · refine ⟨_, [true, false, true, false, true, true, true, true, false, false, false, false, false, false, false].toArray, rfl, rfl, ?_⟩
      refine s_callv hm rfl rfl Try.call65 rfl (hocketlaw17_Token_1.calls (w64 (x_194 + 3)) _ x0 _ t_211 w0 _ _ _ (Mem.le.refl _) (hS.enter [0] (by decide)) (hp0_0.mono (hA.trans (hS.le_zed [0]))) et_211) ?_
      rintro _ w_293 ⟨N_294, rfl, hS'⟩
      clear hm a; intro a hm
      obtain ⟨N_295, hS'', le_295, ln_295⟩ := hS.call [0] (by decide) rfl (l' := [Mem.one g_2 (.cells ([p0_0] : List Value).toArray 23 (0, 0))]) (ow := []) rfl hS'
      replace hS : Sep w0 w_293 [N_295, Mem.one g_2 (.cells ([p0_0] : List Value).toArray 23 (0, 0)), Mem.one g_4 (.cells ([.int .i64 0, .int .i64 0, .int .i64 0, .int .i64 0, .int .i64 0, .int .i64 0, .bool false, .int .i64 0, .int .i64 0, .int .i64 0, .int .i64 0, .slice none 0 0, .int .i64 0, .int .i64 0, .slice none 0 0, .slice none 0 0, .int .i64 0, .int .i64 0, .int .i64 0, .int .i64 0, .int .i64 0, .slice none 0 0, .slice none 0 0, .slice none 0 0] : List Value).toArray 29 (0, 0)), Mem.one g_26 (.cells ([.int .i64 7, .int .i64 (band .i64 t_5 3), .int .i64 (band .i64 (shr .i64 t_9 2) 3), .int .i64 (band .i64 (shr .i64 t_13 4) 255), .int .i64 0, .int .i64 0, .bool false, .int .i64 0, .int .i64 0, .int .i64 0, .int .i64 0, .slice none 0 0, .int .i64 (band .i64 t_17 4095), .int .i64 (band .i64 (shr .i64 t_21 12) 63), v_198, .slice none 0 0, .int .i64 0, .int .i64 0, .int .i64 0, .int .i64 0, .int .i64 0, .slice none 0 0, .slice none 0 0, .slice none 0 0] : List Value).toArray 29 (0, 0)), M_196] Z := hS''
      clear hS' hS''
      refine wpList_nil ?_
      refine x_then_n ⟨(hS.sub (.cons le_295 (.cons (Mem.le.refl _) (.cons (Mem.le.refl _) (.cons (Mem.no_le _) (.cons (Mem.no_le _) (Sub.nil _))))))), ?_⟩
      refine h_take 8 [true, false, true, false, true, true, true, true, true, false, false, false, false, false, false].toArray rfl (by kernel_rfl) (by kernel_rfl) (by kernel_rfl) (fun _ _ _ _ h => h) rfl rfl rfl rfl hm (hS.sub (.cons le_295 (.cons (Mem.le.refl _) (.cons (Mem.le.refl _) (.cons (Mem.no_le _) (.cons (Mem.no_le _) (Sub.nil _))))))) (v := .int .i64 (band .i64 t_211 15)) (fun w hS => r_bits (i := t_211) (j := 15) (r := band .i64 t_211 15) hm rfl rfl (.inl ⟨rfl, rfl⟩)) ?_
      clear hm a; intro a hm
      refine h_events [1, 3] (by kernel_rfl) (by simp) ?_
      intro i hi; simp only [List.mem_cons, List.not_mem_nil, or_false] at hi; rcases hi with rfl | rfl
      · refine ⟨_, [true, true, true, false, true, true, true, true, true, false, false, false, false, false, false].toArray, rfl, rfl, ?_⟩
        refine s_load hm rfl rfl (hS.load_one (p := 3) rfl Try.underlying23 rfl rfl) ?_
        clear hm a; intro a hm
        refine wpList_nil ?_
        refine x_then_n ⟨(hS.sub (.cons le_295 (.cons (Mem.le.refl _) (.cons (Mem.le.refl _) (.cons (Mem.no_le _) (.cons (Mem.no_le _) (Sub.nil _))))))), ?_⟩
        refine h_event 3 [true, true, true, true, true, true, true, true, true, false, false, false, false, false, false].toArray rfl (by kernel_rfl) rfl ?_
        refine s_load hm rfl rfl (hS.load_one (p := 3) rfl Try.underlying3 rfl rfl) ?_
        clear hm a; intro a hm
        refine wpList_nil ?_
        refine x_then_n ⟨(hS.sub (.cons le_295 (.cons (Mem.le.refl _) (.cons (Mem.le.refl _) (.cons (Mem.no_le _) (.cons (Mem.no_le _) (Sub.nil _))))))), ?_⟩
        refine h_take 9 [true, true, true, true, true, true, true, true, true, true, false, false, false, false, false].toArray rfl (by kernel_rfl) (by kernel_rfl) (by kernel_rfl) (fun _ _ _ _ h => h) rfl rfl rfl rfl hm (hS.sub (.cons le_295 (.cons (Mem.le.refl _) (.cons (Mem.le.refl _) (.cons (Mem.no_le _) (.cons (Mem.no_le _) (Sub.nil _))))))) (v := .int .i64 (w64 ((band .i64 (shr .i64 t_21 12) 63) - (band .i64 t_211 15)))) (fun w hS => r_arith (r := w64 ((band .i64 (shr .i64 t_21 12) 63) - (band .i64 t_211 15))) hm rfl rfl (.inr (.inl ⟨rfl, rfl⟩))) ?_
        clear hm a; intro a hm
        refine h_take 10 [true, true, true, true, true, true, true, true, true, true, true, false, false, false, false].toArray rfl (by kernel_rfl) (by kernel_rfl) (by kernel_rfl) (fun _ _ _ _ h => h) rfl rfl rfl rfl hm (hS.sub (.cons le_295 (.cons (Mem.le.refl _) (.cons (Mem.le.refl _) (.cons (Mem.no_le _) (.cons (Mem.no_le _) (Sub.nil _))))))) (v := .int .i64 (mx (w64 ((band .i64 (shr .i64 t_21 12) 63) - (band .i64 t_211 15))) 0)) (fun w hS => r_max hm rfl rfl) ?_
        clear hm a; intro a hm
        refine h_event 11 [true, true, true, true, true, true, true, true, true, true, true, true, false, false, false].toArray rfl (by kernel_rfl) rfl ?_
        have hq_300 : Reps (Kd.int .i64) Mem.no ([mx (w64 ((band .i64 (shr .i64 t_21 12) 63) - (band .i64 t_211 15))) 0] : List Int) _ := ((Reps.one (d := (Kd.int .i64)) (x := mx (w64 ((band .i64 (shr .i64 t_21 12) 63) - (band .i64 t_211 15))) 0) (show (Kd.int .i64).K _ _ [.int .i64 (mx (w64 ((band .i64 (shr .i64 t_21 12) 63) - (band .i64 t_211 15))) 0)] from rfl)).append (Reps.nil (Kd.int .i64) _))
        refine s_buildSlice hm rfl Try.underlying23 ti3 rfl rfl rfl (.cons rfl .nil) rfl rfl rfl hS hq_300 rfl ?_
        intro w_296 v_297 M_298 hS' ho_299
        clear hm a; intro a hm
        replace hS : Sep w0 w_296 [N_295, Mem.one g_2 (.cells ([p0_0] : List Value).toArray 23 (0, 0)), Mem.one g_4 (.cells ([.int .i64 0, .int .i64 0, .int .i64 0, .int .i64 0, .int .i64 0, .int .i64 0, .bool false, .int .i64 0, .int .i64 0, .int .i64 0, .int .i64 0, .slice none 0 0, .int .i64 0, .int .i64 0, .slice none 0 0, .slice none 0 0, .int .i64 0, .int .i64 0, .int .i64 0, .int .i64 0, .int .i64 0, .slice none 0 0, .slice none 0 0, .slice none 0 0] : List Value).toArray 29 (0, 0)), Mem.one g_26 (.cells ([.int .i64 7, .int .i64 (band .i64 t_5 3), .int .i64 (band .i64 (shr .i64 t_9 2) 3), .int .i64 (band .i64 (shr .i64 t_13 4) 255), .int .i64 0, .int .i64 0, .bool false, .int .i64 0, .int .i64 0, .int .i64 0, .int .i64 0, .slice none 0 0, .int .i64 (band .i64 t_17 4095), .int .i64 (band .i64 (shr .i64 t_21 12) 63), v_198, .slice none 0 0, .int .i64 0, .int .i64 0, .int .i64 0, .int .i64 0, .int .i64 0, .slice none 0 0, .slice none 0 0, .slice none 0 0] : List Value).toArray 29 (0, 0)), M_196, M_298] Z := hS'
        clear hS' hq_300
        refine wpList_nil ?_
        refine x_then_n ⟨(hS.sub (.cons le_295 (.cons (Mem.le.refl _) (.cons (Mem.le.refl _) (.cons (Mem.no_le _) (.cons (Mem.no_le _) (Sub.nil _))))))), ?_⟩
        refine h_event 12 [true, true, true, true, true, true, true, true, true, true, true, true, true, false, false].toArray rfl (by kernel_rfl) rfl ?_
        refine s_append (J := Mem.no) (I' := Mem.no) (p := 4) 17592186044416 hm rfl rfl rfl Try.underlying23 ti3 rfl rfl rfl rfl hS rfl ho_199 (Src.flat (flat_int .i64) (ho_299.src (hS.own 5))) (Mem.le.refl _) (Mem.le.refl _) et_221 ?_
        intro w_303 v_304 M_305 hS' ho_306
        clear hm a; intro a hm
        replace hS : Sep w0 w_303 [N_295, Mem.one g_2 (.cells ([p0_0] : List Value).toArray 23 (0, 0)), Mem.one g_4 (.cells ([.int .i64 0, .int .i64 0, .int .i64 0, .int .i64 0, .int .i64 0, .int .i64 0, .bool false, .int .i64 0, .int .i64 0, .int .i64 0, .int .i64 0, .slice none 0 0, .int .i64 0, .int .i64 0, .slice none 0 0, .slice none 0 0, .int .i64 0, .int .i64 0, .int .i64 0, .int .i64 0, .int .i64 0, .slice none 0 0, .slice none 0 0, .slice none 0 0] : List Value).toArray 29 (0, 0)), Mem.one g_26 (.cells ([.int .i64 7, .int .i64 (band .i64 t_5 3), .int .i64 (band .i64 (shr .i64 t_9 2) 3), .int .i64 (band .i64 (shr .i64 t_13 4) 255), .int .i64 0, .int .i64 0, .bool false, .int .i64 0, .int .i64 0, .int .i64 0, .int .i64 0, .slice none 0 0, .int .i64 (band .i64 t_17 4095), .int .i64 (band .i64 (shr .i64 t_21 12) 63), v_198, .slice none 0 0, .int .i64 0, .int .i64 0, .int .i64 0, .int .i64 0, .int .i64 0, .slice none 0 0, .slice none 0 0, .slice none 0 0] : List Value).toArray 29 (0, 0)), M_305, M_298] Z := hS'
        clear hS'
        refine wpList_nil ?_
        refine x_then_n ⟨(hS.sub (.cons le_295 (.cons (Mem.le.refl _) (.cons (Mem.le.refl _) (.cons (Mem.no_le _) (.cons (Mem.no_le _) (Sub.nil _))))))), ?_⟩
        refine h_take 13 [true, true, true, true, true, true, true, true, true, true, true, true, true, true, false].toArray rfl (by kernel_rfl) (by kernel_rfl) (by kernel_rfl) (fun _ _ _ _ h => h) rfl rfl rfl rfl hm (hS.sub (.cons le_295 (.cons (Mem.le.refl _) (.cons (Mem.le.refl _) (.cons (Mem.no_le _) (.cons (Mem.no_le _) (Sub.nil _))))))) (v := .pointer (some ⟨g_26, 14, none⟩)) (fun w hS => r_fieldAddr hm Try.underlying29 rfl ti23 rfl rfl rfl) ?_
        clear hm a; intro a hm
        refine h_event 14 [true, true, true, true, true, true, true, true, true, true, true, true, true, true, true].toArray rfl (by kernel_rfl) rfl ?_
        obtain ⟨w_308, hs', hS'⟩ := hS.store (P := Try.prog) (p := 3) (o := 14) (t := 23) (v := v_304) (vs := [v_304]) rfl ti23 ho_306.cellsA rfl rfl (by intro u hu; simp only [List.mem_cons, List.not_mem_nil, or_false] at hu; rcases hu with rfl <;> first | rfl | exact ho_306.one)
        refine s_store hm rfl rfl hs' ?_
        replace hS : Sep w0 w_308 [N_295, Mem.one g_2 (.cells ([p0_0] : List Value).toArray 23 (0, 0)), Mem.one g_4 (.cells ([.int .i64 0, .int .i64 0, .int .i64 0, .int .i64 0, .int .i64 0, .int .i64 0, .bool false, .int .i64 0, .int .i64 0, .int .i64 0, .int .i64 0, .slice none 0 0, .int .i64 0, .int .i64 0, .slice none 0 0, .slice none 0 0, .int .i64 0, .int .i64 0, .int .i64 0, .int .i64 0, .int .i64 0, .slice none 0 0, .slice none 0 0, .slice none 0 0] : List Value).toArray 29 (0, 0)), Mem.one g_26 (.cells ([.int .i64 7, .int .i64 (band .i64 t_5 3), .int .i64 (band .i64 (shr .i64 t_9 2) 3), .int .i64 (band .i64 (shr .i64 t_13 4) 255), .int .i64 0, .int .i64 0, .bool false, .int .i64 0, .int .i64 0, .int .i64 0, .int .i64 0, .slice none 0 0, .int .i64 (band .i64 t_17 4095), .int .i64 (band .i64 (shr .i64 t_21 12) 63), v_304, .slice none 0 0, .int .i64 0, .int .i64 0, .int .i64 0, .int .i64 0, .int .i64 0, .slice none 0 0, .slice none 0 0, .slice none 0 0] : List Value).toArray 29 (0, 0)), M_305, M_298] Z := hS'
        clear hs' hS'
        refine wpList_nil ?_
        refine x_then_n ⟨(hS.sub (.cons le_295 (.cons (Mem.le.refl _) (.cons (Mem.le.refl _) (.cons (Mem.no_le _) (.cons (Mem.no_le _) (Sub.nil _))))))), ?_⟩
        refine h_done (by kernel_rfl) ?_
        replace hm : Fr 72 a [(2, .pointer (some ⟨g_4, 0, none⟩)), (3, .func (.func 65) #[] [.pointer (some ⟨g_2, 0, none⟩)].toArray), (4, .pointer (some ⟨g_26, 0, none⟩)), (5, .int .i64 x_194)] := hm.keep [2, 3, 4, 5]
        refine x_block_n ?_
        refine x_then_n (hKJ_209 _ _ ?_)
        refine wp_region_lit ?_
        refine s_move hm rfl rfl ?_
        clear hm a; intro a hm
        refine s_arith (r := w64 (x_194 + 1)) hm rfl rfl rfl (.inl ⟨rfl, rfl⟩) ?_
        clear hm a; intro a hm
        refine s_assign hm rfl rfl ?_
        clear hm a; intro a hm
        refine wpList_nil ?_
        replace hm : Fr 72 a [(2, .pointer (some ⟨g_4, 0, none⟩)), (3, .func (.func 65) #[] [.pointer (some ⟨g_2, 0, none⟩)].toArray), (4, .pointer (some ⟨g_26, 0, none⟩)), (5, .int .i64 (w64 (x_194 + 1)))] := hm.keep [2, 3, 4, 5]
        refine x_then_n (hKL_200 _ _ ?_)
        replace hS : Sep w0 w_308 [N_295, Mem.one g_2 (.cells ([p0_0] : List Value).toArray 23 (0, 0)), Mem.one g_4 (.cells ([.int .i64 0, .int .i64 0, .int .i64 0, .int .i64 0, .int .i64 0, .int .i64 0, .bool false, .int .i64 0, .int .i64 0, .int .i64 0, .int .i64 0, .slice none 0 0, .int .i64 0, .int .i64 0, .slice none 0 0, .slice none 0 0, .int .i64 0, .int .i64 0, .int .i64 0, .int .i64 0, .int .i64 0, .slice none 0 0, .slice none 0 0, .slice none 0 0] : List Value).toArray 29 (0, 0)), Mem.one g_26 (.cells ([.int .i64 7, .int .i64 (band .i64 t_5 3), .int .i64 (band .i64 (shr .i64 t_9 2) 3), .int .i64 (band .i64 (shr .i64 t_13 4) 255), .int .i64 0, .int .i64 0, .bool false, .int .i64 0, .int .i64 0, .int .i64 0, .int .i64 0, .slice none 0 0, .int .i64 (band .i64 t_17 4095), .int .i64 (band .i64 (shr .i64 t_21 12) 63), v_304, .slice none 0 0, .int .i64 0, .int .i64 0, .int .i64 0, .int .i64 0, .int .i64 0, .slice none 0 0, .slice none 0 0, .slice none 0 0] : List Value).toArray 29 (0, 0)), M_305, M_298] Z := hS
        replace hm : Fr 72 a [(2, .pointer (some ⟨g_4, 0, none⟩)), (3, .func (.func 65) #[] [.pointer (some ⟨g_2, 0, none⟩)].toArray), (4, .pointer (some ⟨g_26, 0, none⟩)), (5, .int .i64 (w64 (x_194 + 1)))] := hm.keep [2, 3, 4, 5]
        exact ⟨w64 (x_194 + 1), t_221, v_304, N_295, M_305, H, hm, (Sep.sel hS [0, 1, 2, 3, 4] (by decide)), (le_193.trans (le_207.trans le_295)), ho_306⟩
      · refine ⟨_, [true, false, true, true, true, true, true, true, true, false, false, false, false, false, false].toArray, rfl, rfl, ?_⟩
        refine s_load hm rfl rfl (hS.load_one (p := 3) rfl Try.underlying3 rfl rfl) ?_
        clear hm a; intro a hm
        refine wpList_nil ?_
        refine x_then_n ⟨(hS.sub (.cons le_295 (.cons (Mem.le.refl _) (.cons (Mem.le.refl _) (.cons (Mem.no_le _) (.cons (Mem.no_le _) (Sub.nil _))))))), ?_⟩
        refine h_take 9 [true, false, true, true, true, true, true, true, true, true, false, false, false, false, false].toArray rfl (by kernel_rfl) (by kernel_rfl) (by kernel_rfl) (fun _ _ _ _ h => h) rfl rfl rfl rfl hm (hS.sub (.cons le_295 (.cons (Mem.le.refl _) (.cons (Mem.le.refl _) (.cons (Mem.no_le _) (.cons (Mem.no_le _) (Sub.nil _))))))) (v := .int .i64 (w64 ((band .i64 (shr .i64 t_21 12) 63) - (band .i64 t_211 15)))) (fun w hS => r_arith (r := w64 ((band .i64 (shr .i64 t_21 12) 63) - (band .i64 t_211 15))) hm rfl rfl (.inr (.inl ⟨rfl, rfl⟩))) ?_
        clear hm a; intro a hm
        refine h_take 10 [true, false, true, true, true, true, true, true, true, true, true, false, false, false, false].toArray rfl (by kernel_rfl) (by kernel_rfl) (by kernel_rfl) (fun _ _ _ _ h => h) rfl rfl rfl rfl hm (hS.sub (.cons le_295 (.cons (Mem.le.refl _) (.cons (Mem.le.refl _) (.cons (Mem.no_le _) (.cons (Mem.no_le _) (Sub.nil _))))))) (v := .int .i64 (mx (w64 ((band .i64 (shr .i64 t_21 12) 63) - (band .i64 t_211 15))) 0)) (fun w hS => r_max hm rfl rfl) ?_
        clear hm a; intro a hm
        refine h_events [1, 11] (by kernel_rfl) (by simp) ?_
        intro i hi; simp only [List.mem_cons, List.not_mem_nil, or_false] at hi; rcases hi with rfl | rfl
        · refine ⟨_, [true, true, true, true, true, true, true, true, true, true, true, false, false, false, false].toArray, rfl, rfl, ?_⟩
          refine s_load hm rfl rfl (hS.load_one (p := 3) rfl Try.underlying23 rfl rfl) ?_
          clear hm a; intro a hm
          refine wpList_nil ?_
          refine x_then_n ⟨(hS.sub (.cons le_295 (.cons (Mem.le.refl _) (.cons (Mem.le.refl _) (.cons (Mem.no_le _) (.cons (Mem.no_le _) (Sub.nil _))))))), ?_⟩
          refine h_event 11 [true, true, true, true, true, true, true, true, true, true, true, true, false, false, false].toArray rfl (by kernel_rfl) rfl ?_
          have hq_313 : Reps (Kd.int .i64) Mem.no ([mx (w64 ((band .i64 (shr .i64 t_21 12) 63) - (band .i64 t_211 15))) 0] : List Int) _ := ((Reps.one (d := (Kd.int .i64)) (x := mx (w64 ((band .i64 (shr .i64 t_21 12) 63) - (band .i64 t_211 15))) 0) (show (Kd.int .i64).K _ _ [.int .i64 (mx (w64 ((band .i64 (shr .i64 t_21 12) 63) - (band .i64 t_211 15))) 0)] from rfl)).append (Reps.nil (Kd.int .i64) _))
          refine s_buildSlice hm rfl Try.underlying23 ti3 rfl rfl rfl (.cons rfl .nil) rfl rfl rfl hS hq_313 rfl ?_
          intro w_309 v_310 M_311 hS' ho_312
          clear hm a; intro a hm
          replace hS : Sep w0 w_309 [N_295, Mem.one g_2 (.cells ([p0_0] : List Value).toArray 23 (0, 0)), Mem.one g_4 (.cells ([.int .i64 0, .int .i64 0, .int .i64 0, .int .i64 0, .int .i64 0, .int .i64 0, .bool false, .int .i64 0, .int .i64 0, .int .i64 0, .int .i64 0, .slice none 0 0, .int .i64 0, .int .i64 0, .slice none 0 0, .slice none 0 0, .int .i64 0, .int .i64 0, .int .i64 0, .int .i64 0, .int .i64 0, .slice none 0 0, .slice none 0 0, .slice none 0 0] : List Value).toArray 29 (0, 0)), Mem.one g_26 (.cells ([.int .i64 7, .int .i64 (band .i64 t_5 3), .int .i64 (band .i64 (shr .i64 t_9 2) 3), .int .i64 (band .i64 (shr .i64 t_13 4) 255), .int .i64 0, .int .i64 0, .bool false, .int .i64 0, .int .i64 0, .int .i64 0, .int .i64 0, .slice none 0 0, .int .i64 (band .i64 t_17 4095), .int .i64 (band .i64 (shr .i64 t_21 12) 63), v_198, .slice none 0 0, .int .i64 0, .int .i64 0, .int .i64 0, .int .i64 0, .int .i64 0, .slice none 0 0, .slice none 0 0, .slice none 0 0] : List Value).toArray 29 (0, 0)), M_196, M_311] Z := hS'
          clear hS' hq_313
          refine wpList_nil ?_
          refine x_then_n ⟨(hS.sub (.cons le_295 (.cons (Mem.le.refl _) (.cons (Mem.le.refl _) (.cons (Mem.no_le _) (.cons (Mem.no_le _) (Sub.nil _))))))), ?_⟩
          refine h_event 12 [true, true, true, true, true, true, true, true, true, true, true, true, true, false, false].toArray rfl (by kernel_rfl) rfl ?_
          refine s_append (J := Mem.no) (I' := Mem.no) (p := 4) 17592186044416 hm rfl rfl rfl Try.underlying23 ti3 rfl rfl rfl rfl hS rfl ho_199 (Src.flat (flat_int .i64) (ho_312.src (hS.own 5))) (Mem.le.refl _) (Mem.le.refl _) et_221 ?_
          intro w_316 v_317 M_318 hS' ho_319
          clear hm a; intro a hm
          replace hS : Sep w0 w_316 [N_295, Mem.one g_2 (.cells ([p0_0] : List Value).toArray 23 (0, 0)), Mem.one g_4 (.cells ([.int .i64 0, .int .i64 0, .int .i64 0, .int .i64 0, .int .i64 0, .int .i64 0, .bool false, .int .i64 0, .int .i64 0, .int .i64 0, .int .i64 0, .slice none 0 0, .int .i64 0, .int .i64 0, .slice none 0 0, .slice none 0 0, .int .i64 0, .int .i64 0, .int .i64 0, .int .i64 0, .int .i64 0, .slice none 0 0, .slice none 0 0, .slice none 0 0] : List Value).toArray 29 (0, 0)), Mem.one g_26 (.cells ([.int .i64 7, .int .i64 (band .i64 t_5 3), .int .i64 (band .i64 (shr .i64 t_9 2) 3), .int .i64 (band .i64 (shr .i64 t_13 4) 255), .int .i64 0, .int .i64 0, .bool false, .int .i64 0, .int .i64 0, .int .i64 0, .int .i64 0, .slice none 0 0, .int .i64 (band .i64 t_17 4095), .int .i64 (band .i64 (shr .i64 t_21 12) 63), v_198, .slice none 0 0, .int .i64 0, .int .i64 0, .int .i64 0, .int .i64 0, .int .i64 0, .slice none 0 0, .slice none 0 0, .slice none 0 0] : List Value).toArray 29 (0, 0)), M_318, M_311] Z := hS'
          clear hS'
          refine wpList_nil ?_
          refine x_then_n ⟨(hS.sub (.cons le_295 (.cons (Mem.le.refl _) (.cons (Mem.le.refl _) (.cons (Mem.no_le _) (.cons (Mem.no_le _) (Sub.nil _))))))), ?_⟩
          refine h_take 13 [true, true, true, true, true, true, true, true, true, true, true, true, true, true, false].toArray rfl (by kernel_rfl) (by kernel_rfl) (by kernel_rfl) (fun _ _ _ _ h => h) rfl rfl rfl rfl hm (hS.sub (.cons le_295 (.cons (Mem.le.refl _) (.cons (Mem.le.refl _) (.cons (Mem.no_le _) (.cons (Mem.no_le _) (Sub.nil _))))))) (v := .pointer (some ⟨g_26, 14, none⟩)) (fun w hS => r_fieldAddr hm Try.underlying29 rfl ti23 rfl rfl rfl) ?_
          clear hm a; intro a hm
          refine h_event 14 [true, true, true, true, true, true, true, true, true, true, true, true, true, true, true].toArray rfl (by kernel_rfl) rfl ?_
          obtain ⟨w_321, hs', hS'⟩ := hS.store (P := Try.prog) (p := 3) (o := 14) (t := 23) (v := v_317) (vs := [v_317]) rfl ti23 ho_319.cellsA rfl rfl (by intro u hu; simp only [List.mem_cons, List.not_mem_nil, or_false] at hu; rcases hu with rfl <;> first | rfl | exact ho_319.one)
          refine s_store hm rfl rfl hs' ?_
          replace hS : Sep w0 w_321 [N_295, Mem.one g_2 (.cells ([p0_0] : List Value).toArray 23 (0, 0)), Mem.one g_4 (.cells ([.int .i64 0, .int .i64 0, .int .i64 0, .int .i64 0, .int .i64 0, .int .i64 0, .bool false, .int .i64 0, .int .i64 0, .int .i64 0, .int .i64 0, .slice none 0 0, .int .i64 0, .int .i64 0, .slice none 0 0, .slice none 0 0, .int .i64 0, .int .i64 0, .int .i64 0, .int .i64 0, .int .i64 0, .slice none 0 0, .slice none 0 0, .slice none 0 0] : List Value).toArray 29 (0, 0)), Mem.one g_26 (.cells ([.int .i64 7, .int .i64 (band .i64 t_5 3), .int .i64 (band .i64 (shr .i64 t_9 2) 3), .int .i64 (band .i64 (shr .i64 t_13 4) 255), .int .i64 0, .int .i64 0, .bool false, .int .i64 0, .int .i64 0, .int .i64 0, .int .i64 0, .slice none 0 0, .int .i64 (band .i64 t_17 4095), .int .i64 (band .i64 (shr .i64 t_21 12) 63), v_317, .slice none 0 0, .int .i64 0, .int .i64 0, .int .i64 0, .int .i64 0, .int .i64 0, .slice none 0 0, .slice none 0 0, .slice none 0 0] : List Value).toArray 29 (0, 0)), M_318, M_311] Z := hS'
          clear hs' hS'
          refine wpList_nil ?_
          refine x_then_n ⟨(hS.sub (.cons le_295 (.cons (Mem.le.refl _) (.cons (Mem.le.refl _) (.cons (Mem.no_le _) (.cons (Mem.no_le _) (Sub.nil _))))))), ?_⟩
          refine h_done (by kernel_rfl) ?_
          replace hm : Fr 72 a [(2, .pointer (some ⟨g_4, 0, none⟩)), (3, .func (.func 65) #[] [.pointer (some ⟨g_2, 0, none⟩)].toArray), (4, .pointer (some ⟨g_26, 0, none⟩)), (5, .int .i64 x_194)] := hm.keep [2, 3, 4, 5]
          refine x_block_n ?_
          refine x_then_n (hKJ_209 _ _ ?_)
          refine wp_region_lit ?_
          refine s_move hm rfl rfl ?_
          clear hm a; intro a hm
          refine s_arith (r := w64 (x_194 + 1)) hm rfl rfl rfl (.inl ⟨rfl, rfl⟩) ?_
          clear hm a; intro a hm
          refine s_assign hm rfl rfl ?_
          clear hm a; intro a hm
          refine wpList_nil ?_
          replace hm : Fr 72 a [(2, .pointer (some ⟨g_4, 0, none⟩)), (3, .func (.func 65) #[] [.pointer (some ⟨g_2, 0, none⟩)].toArray), (4, .pointer (some ⟨g_26, 0, none⟩)), (5, .int .i64 (w64 (x_194 + 1)))] := hm.keep [2, 3, 4, 5]
          refine x_then_n (hKL_200 _ _ ?_)
          replace hS : Sep w0 w_321 [N_295, Mem.one g_2 (.cells ([p0_0] : List Value).toArray 23 (0, 0)), Mem.one g_4 (.cells ([.int .i64 0, .int .i64 0, .int .i64 0, .int .i64 0, .int .i64 0, .int .i64 0, .bool false, .int .i64 0, .int .i64 0, .int .i64 0, .int .i64 0, .slice none 0 0, .int .i64 0, .int .i64 0, .slice none 0 0, .slice none 0 0, .int .i64 0, .int .i64 0, .int .i64 0, .int .i64 0, .int .i64 0, .slice none 0 0, .slice none 0 0, .slice none 0 0] : List Value).toArray 29 (0, 0)), Mem.one g_26 (.cells ([.int .i64 7, .int .i64 (band .i64 t_5 3), .int .i64 (band .i64 (shr .i64 t_9 2) 3), .int .i64 (band .i64 (shr .i64 t_13 4) 255), .int .i64 0, .int .i64 0, .bool false, .int .i64 0, .int .i64 0, .int .i64 0, .int .i64 0, .slice none 0 0, .int .i64 (band .i64 t_17 4095), .int .i64 (band .i64 (shr .i64 t_21 12) 63), v_317, .slice none 0 0, .int .i64 0, .int .i64 0, .int .i64 0, .int .i64 0, .int .i64 0, .slice none 0 0, .slice none 0 0, .slice none 0 0] : List Value).toArray 29 (0, 0)), M_318, M_311] Z := hS
          replace hm : Fr 72 a [(2, .pointer (some ⟨g_4, 0, none⟩)), (3, .func (.func 65) #[] [.pointer (some ⟨g_2, 0, none⟩)].toArray), (4, .pointer (some ⟨g_26, 0, none⟩)), (5, .int .i64 (w64 (x_194 + 1)))] := hm.keep [2, 3, 4, 5]
          exact ⟨w64 (x_194 + 1), t_221, v_317, N_295, M_318, H, hm, (Sep.sel hS [0, 1, 2, 3, 4] (by decide)), (le_193.trans (le_207.trans le_295)), ho_319⟩
        · refine ⟨_, [true, false, true, true, true, true, true, true, true, true, true, true, false, false, false].toArray, rfl, rfl, ?_⟩
          have hq_326 : Reps (Kd.int .i64) Mem.no ([mx (w64 ((band .i64 (shr .i64 t_21 12) 63) - (band .i64 t_211 15))) 0] : List Int) _ := ((Reps.one (d := (Kd.int .i64)) (x := mx (w64 ((band .i64 (shr .i64 t_21 12) 63) - (band .i64 t_211 15))) 0) (show (Kd.int .i64).K _ _ [.int .i64 (mx (w64 ((band .i64 (shr .i64 t_21 12) 63) - (band .i64 t_211 15))) 0)] from rfl)).append (Reps.nil (Kd.int .i64) _))
          refine s_buildSlice hm rfl Try.underlying23 ti3 rfl rfl rfl (.cons rfl .nil) rfl rfl rfl hS hq_326 rfl ?_
          intro w_322 v_323 M_324 hS' ho_325
          clear hm a; intro a hm
          replace hS : Sep w0 w_322 [N_295, Mem.one g_2 (.cells ([p0_0] : List Value).toArray 23 (0, 0)), Mem.one g_4 (.cells ([.int .i64 0, .int .i64 0, .int .i64 0, .int .i64 0, .int .i64 0, .int .i64 0, .bool false, .int .i64 0, .int .i64 0, .int .i64 0, .int .i64 0, .slice none 0 0, .int .i64 0, .int .i64 0, .slice none 0 0, .slice none 0 0, .int .i64 0, .int .i64 0, .int .i64 0, .int .i64 0, .int .i64 0, .slice none 0 0, .slice none 0 0, .slice none 0 0] : List Value).toArray 29 (0, 0)), Mem.one g_26 (.cells ([.int .i64 7, .int .i64 (band .i64 t_5 3), .int .i64 (band .i64 (shr .i64 t_9 2) 3), .int .i64 (band .i64 (shr .i64 t_13 4) 255), .int .i64 0, .int .i64 0, .bool false, .int .i64 0, .int .i64 0, .int .i64 0, .int .i64 0, .slice none 0 0, .int .i64 (band .i64 t_17 4095), .int .i64 (band .i64 (shr .i64 t_21 12) 63), v_198, .slice none 0 0, .int .i64 0, .int .i64 0, .int .i64 0, .int .i64 0, .int .i64 0, .slice none 0 0, .slice none 0 0, .slice none 0 0] : List Value).toArray 29 (0, 0)), M_196, M_324] Z := hS'
          clear hS' hq_326
          refine wpList_nil ?_
          refine x_then_n ⟨(hS.sub (.cons le_295 (.cons (Mem.le.refl _) (.cons (Mem.le.refl _) (.cons (Mem.no_le _) (.cons (Mem.no_le _) (Sub.nil _))))))), ?_⟩
          refine h_event 1 [true, true, true, true, true, true, true, true, true, true, true, true, false, false, false].toArray rfl (by kernel_rfl) rfl ?_
          refine s_load hm rfl rfl (hS.load_one (p := 3) rfl Try.underlying23 rfl rfl) ?_
          clear hm a; intro a hm
          refine wpList_nil ?_
          refine x_then_n ⟨(hS.sub (.cons le_295 (.cons (Mem.le.refl _) (.cons (Mem.le.refl _) (.cons (Mem.no_le _) (.cons (Mem.no_le _) (Sub.nil _))))))), ?_⟩
          refine h_event 12 [true, true, true, true, true, true, true, true, true, true, true, true, true, false, false].toArray rfl (by kernel_rfl) rfl ?_
          refine s_append (J := Mem.no) (I' := Mem.no) (p := 4) 17592186044416 hm rfl rfl rfl Try.underlying23 ti3 rfl rfl rfl rfl hS rfl ho_199 (Src.flat (flat_int .i64) (ho_325.src (hS.own 5))) (Mem.le.refl _) (Mem.le.refl _) et_221 ?_
          intro w_329 v_330 M_331 hS' ho_332
          clear hm a; intro a hm
          replace hS : Sep w0 w_329 [N_295, Mem.one g_2 (.cells ([p0_0] : List Value).toArray 23 (0, 0)), Mem.one g_4 (.cells ([.int .i64 0, .int .i64 0, .int .i64 0, .int .i64 0, .int .i64 0, .int .i64 0, .bool false, .int .i64 0, .int .i64 0, .int .i64 0, .int .i64 0, .slice none 0 0, .int .i64 0, .int .i64 0, .slice none 0 0, .slice none 0 0, .int .i64 0, .int .i64 0, .int .i64 0, .int .i64 0, .int .i64 0, .slice none 0 0, .slice none 0 0, .slice none 0 0] : List Value).toArray 29 (0, 0)), Mem.one g_26 (.cells ([.int .i64 7, .int .i64 (band .i64 t_5 3), .int .i64 (band .i64 (shr .i64 t_9 2) 3), .int .i64 (band .i64 (shr .i64 t_13 4) 255), .int .i64 0, .int .i64 0, .bool false, .int .i64 0, .int .i64 0, .int .i64 0, .int .i64 0, .slice none 0 0, .int .i64 (band .i64 t_17 4095), .int .i64 (band .i64 (shr .i64 t_21 12) 63), v_198, .slice none 0 0, .int .i64 0, .int .i64 0, .int .i64 0, .int .i64 0, .int .i64 0, .slice none 0 0, .slice none 0 0, .slice none 0 0] : List Value).toArray 29 (0, 0)), M_331, M_324] Z := hS'
          clear hS'
          refine wpList_nil ?_
          refine x_then_n ⟨(hS.sub (.cons le_295 (.cons (Mem.le.refl _) (.cons (Mem.le.refl _) (.cons (Mem.no_le _) (.cons (Mem.no_le _) (Sub.nil _))))))), ?_⟩
          refine h_take 13 [true, true, true, true, true, true, true, true, true, true, true, true, true, true, false].toArray rfl (by kernel_rfl) (by kernel_rfl) (by kernel_rfl) (fun _ _ _ _ h => h) rfl rfl rfl rfl hm (hS.sub (.cons le_295 (.cons (Mem.le.refl _) (.cons (Mem.le.refl _) (.cons (Mem.no_le _) (.cons (Mem.no_le _) (Sub.nil _))))))) (v := .pointer (some ⟨g_26, 14, none⟩)) (fun w hS => r_fieldAddr hm Try.underlying29 rfl ti23 rfl rfl rfl) ?_
          clear hm a; intro a hm
          refine h_event 14 [true, true, true, true, true, true, true, true, true, true, true, true, true, true, true].toArray rfl (by kernel_rfl) rfl ?_
          obtain ⟨w_334, hs', hS'⟩ := hS.store (P := Try.prog) (p := 3) (o := 14) (t := 23) (v := v_330) (vs := [v_330]) rfl ti23 ho_332.cellsA rfl rfl (by intro u hu; simp only [List.mem_cons, List.not_mem_nil, or_false] at hu; rcases hu with rfl <;> first | rfl | exact ho_332.one)
          refine s_store hm rfl rfl hs' ?_
          replace hS : Sep w0 w_334 [N_295, Mem.one g_2 (.cells ([p0_0] : List Value).toArray 23 (0, 0)), Mem.one g_4 (.cells ([.int .i64 0, .int .i64 0, .int .i64 0, .int .i64 0, .int .i64 0, .int .i64 0, .bool false, .int .i64 0, .int .i64 0, .int .i64 0, .int .i64 0, .slice none 0 0, .int .i64 0, .int .i64 0, .slice none 0 0, .slice none 0 0, .int .i64 0, .int .i64 0, .int .i64 0, .int .i64 0, .int .i64 0, .slice none 0 0, .slice none 0 0, .slice none 0 0] : List Value).toArray 29 (0, 0)), Mem.one g_26 (.cells ([.int .i64 7, .int .i64 (band .i64 t_5 3), .int .i64 (band .i64 (shr .i64 t_9 2) 3), .int .i64 (band .i64 (shr .i64 t_13 4) 255), .int .i64 0, .int .i64 0, .bool false, .int .i64 0, .int .i64 0, .int .i64 0, .int .i64 0, .slice none 0 0, .int .i64 (band .i64 t_17 4095), .int .i64 (band .i64 (shr .i64 t_21 12) 63), v_330, .slice none 0 0, .int .i64 0, .int .i64 0, .int .i64 0, .int .i64 0, .int .i64 0, .slice none 0 0, .slice none 0 0, .slice none 0 0] : List Value).toArray 29 (0, 0)), M_331, M_324] Z := hS'
          clear hs' hS'
          refine wpList_nil ?_
          refine x_then_n ⟨(hS.sub (.cons le_295 (.cons (Mem.le.refl _) (.cons (Mem.le.refl _) (.cons (Mem.no_le _) (.cons (Mem.no_le _) (Sub.nil _))))))), ?_⟩
          refine h_done (by kernel_rfl) ?_
          replace hm : Fr 72 a [(2, .pointer (some ⟨g_4, 0, none⟩)), (3, .func (.func 65) #[] [.pointer (some ⟨g_2, 0, none⟩)].toArray), (4, .pointer (some ⟨g_26, 0, none⟩)), (5, .int .i64 x_194)] := hm.keep [2, 3, 4, 5]
          refine x_block_n ?_
          refine x_then_n (hKJ_209 _ _ ?_)
          refine wp_region_lit ?_
          refine s_move hm rfl rfl ?_
          clear hm a; intro a hm
          refine s_arith (r := w64 (x_194 + 1)) hm rfl rfl rfl (.inl ⟨rfl, rfl⟩) ?_
          clear hm a; intro a hm
          refine s_assign hm rfl rfl ?_
          clear hm a; intro a hm
          refine wpList_nil ?_
          replace hm : Fr 72 a [(2, .pointer (some ⟨g_4, 0, none⟩)), (3, .func (.func 65) #[] [.pointer (some ⟨g_2, 0, none⟩)].toArray), (4, .pointer (some ⟨g_26, 0, none⟩)), (5, .int .i64 (w64 (x_194 + 1)))] := hm.keep [2, 3, 4, 5]
          refine x_then_n (hKL_200 _ _ ?_)
          replace hS : Sep w0 w_334 [N_295, Mem.one g_2 (.cells ([p0_0] : List Value).toArray 23 (0, 0)), Mem.one g_4 (.cells ([.int .i64 0, .int .i64 0, .int .i64 0, .int .i64 0, .int .i64 0, .int .i64 0, .bool false, .int .i64 0, .int .i64 0, .int .i64 0, .int .i64 0, .slice none 0 0, .int .i64 0, .int .i64 0, .slice none 0 0, .slice none 0 0, .int .i64 0, .int .i64 0, .int .i64 0, .int .i64 0, .int .i64 0, .slice none 0 0, .slice none 0 0, .slice none 0 0] : List Value).toArray 29 (0, 0)), Mem.one g_26 (.cells ([.int .i64 7, .int .i64 (band .i64 t_5 3), .int .i64 (band .i64 (shr .i64 t_9 2) 3), .int .i64 (band .i64 (shr .i64 t_13 4) 255), .int .i64 0, .int .i64 0, .bool false, .int .i64 0, .int .i64 0, .int .i64 0, .int .i64 0, .slice none 0 0, .int .i64 (band .i64 t_17 4095), .int .i64 (band .i64 (shr .i64 t_21 12) 63), v_330, .slice none 0 0, .int .i64 0, .int .i64 0, .int .i64 0, .int .i64 0, .int .i64 0, .slice none 0 0, .slice none 0 0, .slice none 0 0] : List Value).toArray 29 (0, 0)), M_331, M_324] Z := hS
          replace hm : Fr 72 a [(2, .pointer (some ⟨g_4, 0, none⟩)), (3, .func (.func 65) #[] [.pointer (some ⟨g_2, 0, none⟩)].toArray), (4, .pointer (some ⟨g_26, 0, none⟩)), (5, .int .i64 (w64 (x_194 + 1)))] := hm.keep [2, 3, 4, 5]
          exact ⟨w64 (x_194 + 1), t_221, v_330, N_295, M_331, H, hm, (Sep.sel hS [0, 1, 2, 3, 4] (by decide)), (le_193.trans (le_207.trans le_295)), ho_332⟩
  · rw [if_neg hc_208] at H
    refine c_cond_f hm rfl (decide_eq_false hc_208) ?_
    refine wp_exit (x_then_x (x_then_x (x_block_t ?_)))
    replace hS : Sep w0 w_205 [N_207, Mem.one g_2 (.cells ([p0_0] : List Value).toArray 23 (0, 0)), Mem.one g_4 (.cells ([.int .i64 0, .int .i64 0, .int .i64 0, .int .i64 0, .int .i64 0, .int .i64 0, .bool false, .int .i64 0, .int .i64 0, .int .i64 0, .int .i64 0, .slice none 0 0, .int .i64 0, .int .i64 0, .slice none 0 0, .slice none 0 0, .int .i64 0, .int .i64 0, .int .i64 0, .int .i64 0, .int .i64 0, .slice none 0 0, .slice none 0 0, .slice none 0 0] : List Value).toArray 29 (0, 0)), Mem.one g_26 (.cells ([.int .i64 7, .int .i64 (band .i64 t_5 3), .int .i64 (band .i64 (shr .i64 t_9 2) 3), .int .i64 (band .i64 (shr .i64 t_13 4) 255), .int .i64 0, .int .i64 0, .bool false, .int .i64 0, .int .i64 0, .int .i64 0, .int .i64 0, .slice none 0 0, .int .i64 (band .i64 t_17 4095), .int .i64 (band .i64 (shr .i64 t_21 12) 63), v_198, .slice none 0 0, .int .i64 0, .int .i64 0, .int .i64 0, .int .i64 0, .int .i64 0, .slice none 0 0, .slice none 0 0, .slice none 0 0] : List Value).toArray 29 (0, 0)), M_196] Z := hS
    replace hm : Fr 72 a [(2, .pointer (some ⟨g_4, 0, none⟩)), (3, .func (.func 65) #[] [.pointer (some ⟨g_2, 0, none⟩)].toArray), (4, .pointer (some ⟨g_26, 0, none⟩))] := hm.keep [2, 3, 4]
    exact x_then_n (hJ_j_36 x_195 H _ _ ⟨v_198, N_207, M_196, hm, (Sep.sel hS [0, 1, 2, 3, 4] (by decide)), (le_193.trans le_207), ho_199⟩)


end Go.Proofs
