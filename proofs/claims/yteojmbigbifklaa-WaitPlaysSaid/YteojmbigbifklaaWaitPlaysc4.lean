/- What the calls do: each function once. -/
import Derived.Test.YteojmbigbifklaaWaitPlaysc3
namespace Go.Proofs
open Go.Gp
set_option linter.unusedVariables false
set_option maxHeartbeats 4000000 in
set_option maxRecDepth 20000 in
theorem hocketref4_SameEntry.calls (x0 : api_Entry) (p0_0 : Value) (p0_1 : Value) (p0_2 : Value) (x1 : api_Entry) (p1_3 : Value) (p1_4 : Value) (p1_5 : Value) (r : Bool) (w0 w : World) (Z A : Mem) (hA : A.le Z) (hS : Sep w0 w [] Z) (hp0_0 : Rd Kd.u8 A p0_0 x0.Cmd.Key) (hp0_1 : Rd Kd.u8 A p0_1 x0.Cmd.Val) (hp0_2 : Rd Kd.u8 A p0_2 x0.Cmd.Old) (hp1_3 : Rd Kd.u8 A p1_3 x1.Cmd.Key) (hp1_4 : Rd Kd.u8 A p1_4 x1.Cmd.Val) (hp1_5 : Rd Kd.u8 A p1_5 x1.Cmd.Old)
    (H : hocketref4_SameEntry.f x0 x1 = some r) :
    Calls Try.prog 29 [.agg ([.int .i64 x0.Sess, .int .i64 x0.Seq, .int .i64 x0.Cmd.Kind, .int .i64 x0.Cmd.Who, p0_0, p0_1, p0_2] : List Value).toArray, .agg ([.int .i64 x1.Sess, .int .i64 x1.Seq, .int .i64 x1.Cmd.Kind, .int .i64 x1.Cmd.Who, p1_3, p1_4, p1_5] : List Value).toArray].toArray w (Ret fun v w' => ∃ (N : Mem), v = .bool r ∧ Sep w0 w' [N] Z) := by
  unfold hocketref4_SameEntry.f at H
  refine f_enter _ Try.func29 rfl Try.ntmps29 rfl fun a hm => ?_
  replace hm : Fr 68 a [(0, .agg ([.int .i64 x0.Sess, .int .i64 x0.Seq, .int .i64 x0.Cmd.Kind, .int .i64 x0.Cmd.Who, p0_0, p0_1, p0_2] : List Value).toArray), (1, .agg ([.int .i64 x1.Sess, .int .i64 x1.Seq, .int .i64 x1.Cmd.Kind, .int .i64 x1.Cmd.Who, p1_3, p1_4, p1_5] : List Value).toArray)] := hm
  replace hS := hS.start
  replace hS : Sep w0 w [Mem.no] Z := hS
  refine wp_seq ?_
  refine wp_region_lit ?_
  refine v_box (vs := [.int .i64 x0.Sess, .int .i64 x0.Seq, .int .i64 x0.Cmd.Kind, .int .i64 x0.Cmd.Who, p0_0, p0_1, p0_2]) hm rfl rfl rfl hS ?_
  intro w_1 g_2 hS'
  clear hm a; intro a hm
  replace hS : Sep w0 w_1 [Mem.no, Mem.one g_2 (.cells ([.int .i64 x0.Sess, .int .i64 x0.Seq, .int .i64 x0.Cmd.Kind, .int .i64 x0.Cmd.Who, p0_0, p0_1, p0_2] : List Value).toArray 45 (0, 0))] Z := hS'
  clear hS'
  refine v_box (vs := [.int .i64 x1.Sess, .int .i64 x1.Seq, .int .i64 x1.Cmd.Kind, .int .i64 x1.Cmd.Who, p1_3, p1_4, p1_5]) hm rfl rfl rfl hS ?_
  intro w_3 g_4 hS'
  clear hm a; intro a hm
  replace hS : Sep w0 w_3 [Mem.no, Mem.one g_2 (.cells ([.int .i64 x0.Sess, .int .i64 x0.Seq, .int .i64 x0.Cmd.Kind, .int .i64 x0.Cmd.Who, p0_0, p0_1, p0_2] : List Value).toArray 45 (0, 0)), Mem.one g_4 (.cells ([.int .i64 x1.Sess, .int .i64 x1.Seq, .int .i64 x1.Cmd.Kind, .int .i64 x1.Cmd.Who, p1_3, p1_4, p1_5] : List Value).toArray 45 (0, 0))] Z := hS'
  clear hS'
  refine s_assign hm rfl rfl ?_
  clear hm a; intro a hm
  refine wpList_nil ?_
  replace hm : Fr 68 a [(2, .pointer (some ⟨g_2, 0, none⟩)), (3, .pointer (some ⟨g_4, 0, none⟩)), (4, .bool false)] := hm.keep [2, 3, 4]
  refine x_then_n ?_
  refine c_seq fun KJ_5 hKJ_5 => ?_
  refine wp_region_lit ?_
  refine s_fieldAddr hm rfl Try.underlying45 rfl ti3 rfl rfl ?_
  clear hm a; intro a hm
  refine s_load hm rfl rfl (hS.load_one (p := 1) rfl Try.underlying3 rfl rfl) ?_
  clear hm a; intro a hm
  refine s_fieldAddr hm rfl Try.underlying45 rfl ti3 rfl rfl ?_
  clear hm a; intro a hm
  refine s_load hm rfl rfl (hS.load_one (p := 2) rfl Try.underlying3 rfl rfl) ?_
  clear hm a; intro a hm
  refine s_cmp (b := (x0.Sess == x1.Sess)) hm rfl rfl rfl (.inl ⟨rfl, rfl⟩) ?_
  clear hm a; intro a hm
  refine s_move hm rfl rfl ?_
  clear hm a; intro a hm
  by_cases hc_6 : x0.Sess = x1.Sess
  · rw [if_pos hc_6] at H
    refine s_on hm rfl rfl (beq_iff_eq.2 hc_6) ?_
    refine s_fieldAddr hm rfl Try.underlying45 rfl ti3 rfl rfl ?_
    clear hm a; intro a hm
    refine s_on hm rfl rfl (beq_iff_eq.2 hc_6) ?_
    refine s_load hm rfl rfl (hS.load_one (p := 1) rfl Try.underlying3 rfl rfl) ?_
    clear hm a; intro a hm
    refine s_on hm rfl rfl (beq_iff_eq.2 hc_6) ?_
    refine s_fieldAddr hm rfl Try.underlying45 rfl ti3 rfl rfl ?_
    clear hm a; intro a hm
    refine s_on hm rfl rfl (beq_iff_eq.2 hc_6) ?_
    refine s_load hm rfl rfl (hS.load_one (p := 2) rfl Try.underlying3 rfl rfl) ?_
    clear hm a; intro a hm
    refine s_on hm rfl rfl (beq_iff_eq.2 hc_6) ?_
    refine s_cmp (b := (x0.Seq == x1.Seq)) hm rfl rfl rfl (.inl ⟨rfl, rfl⟩) ?_
    clear hm a; intro a hm
    refine s_pick_t hm rfl rfl (beq_iff_eq.2 hc_6) rfl ?_
    clear hm a; intro a hm
    refine s_move hm rfl rfl ?_
    clear hm a; intro a hm
    by_cases hc_7 : x0.Seq = x1.Seq
    · rw [if_pos hc_7] at H
      refine s_on hm rfl rfl (beq_iff_eq.2 hc_7) ?_
      refine s_fieldAddr hm rfl Try.underlying45 rfl ti43 rfl rfl ?_
      clear hm a; intro a hm
      refine s_on hm rfl rfl (beq_iff_eq.2 hc_7) ?_
      refine s_fieldAddr hm rfl Try.underlying43 rfl ti3 rfl rfl ?_
      clear hm a; intro a hm
      refine s_on hm rfl rfl (beq_iff_eq.2 hc_7) ?_
      refine s_load hm rfl rfl (hS.load_one (p := 1) rfl Try.underlying3 rfl rfl) ?_
      clear hm a; intro a hm
      refine s_on hm rfl rfl (beq_iff_eq.2 hc_7) ?_
      refine s_fieldAddr hm rfl Try.underlying45 rfl ti43 rfl rfl ?_
      clear hm a; intro a hm
      refine s_on hm rfl rfl (beq_iff_eq.2 hc_7) ?_
      refine s_fieldAddr hm rfl Try.underlying43 rfl ti3 rfl rfl ?_
      clear hm a; intro a hm
      refine s_on hm rfl rfl (beq_iff_eq.2 hc_7) ?_
      refine s_load hm rfl rfl (hS.load_one (p := 2) rfl Try.underlying3 rfl rfl) ?_
      clear hm a; intro a hm
      refine s_on hm rfl rfl (beq_iff_eq.2 hc_7) ?_
      refine s_cmp (b := (x0.Cmd.Kind == x1.Cmd.Kind)) hm rfl rfl rfl (.inl ⟨rfl, rfl⟩) ?_
      clear hm a; intro a hm
      refine s_pick_t hm rfl rfl (beq_iff_eq.2 hc_7) rfl ?_
      clear hm a; intro a hm
      refine s_move hm rfl rfl ?_
      clear hm a; intro a hm
      by_cases hc_8 : x0.Cmd.Kind = x1.Cmd.Kind
      · rw [if_pos hc_8] at H
        refine s_on hm rfl rfl (beq_iff_eq.2 hc_8) ?_
        refine s_fieldAddr hm rfl Try.underlying45 rfl ti43 rfl rfl ?_
        clear hm a; intro a hm
        refine s_on hm rfl rfl (beq_iff_eq.2 hc_8) ?_
        refine s_fieldAddr hm rfl Try.underlying43 rfl ti3 rfl rfl ?_
        clear hm a; intro a hm
        refine s_on hm rfl rfl (beq_iff_eq.2 hc_8) ?_
        refine s_load hm rfl rfl (hS.load_one (p := 1) rfl Try.underlying3 rfl rfl) ?_
        clear hm a; intro a hm
        refine s_on hm rfl rfl (beq_iff_eq.2 hc_8) ?_
        refine s_fieldAddr hm rfl Try.underlying45 rfl ti43 rfl rfl ?_
        clear hm a; intro a hm
        refine s_on hm rfl rfl (beq_iff_eq.2 hc_8) ?_
        refine s_fieldAddr hm rfl Try.underlying43 rfl ti3 rfl rfl ?_
        clear hm a; intro a hm
        refine s_on hm rfl rfl (beq_iff_eq.2 hc_8) ?_
        refine s_load hm rfl rfl (hS.load_one (p := 2) rfl Try.underlying3 rfl rfl) ?_
        clear hm a; intro a hm
        refine s_on hm rfl rfl (beq_iff_eq.2 hc_8) ?_
        refine s_cmp (b := (x0.Cmd.Who == x1.Cmd.Who)) hm rfl rfl rfl (.inl ⟨rfl, rfl⟩) ?_
        clear hm a; intro a hm
        refine s_pick_t hm rfl rfl (beq_iff_eq.2 hc_8) rfl ?_
        clear hm a; intro a hm
        refine s_move hm rfl rfl ?_
        clear hm a; intro a hm
        by_cases hc_9 : x0.Cmd.Who = x1.Cmd.Who
        · rw [if_pos hc_9] at H
          refine s_on hm rfl rfl (beq_iff_eq.2 hc_9) ?_
          refine s_fieldAddr hm rfl Try.underlying45 rfl ti43 rfl rfl ?_
          clear hm a; intro a hm
          refine s_on hm rfl rfl (beq_iff_eq.2 hc_9) ?_
          refine s_fieldAddr hm rfl Try.underlying43 rfl ti26 rfl rfl ?_
          clear hm a; intro a hm
          refine s_on hm rfl rfl (beq_iff_eq.2 hc_9) ?_
          refine s_load hm rfl rfl (hS.load_one (p := 1) rfl Try.underlying26 rfl rfl) ?_
          clear hm a; intro a hm
          refine s_on hm rfl rfl (beq_iff_eq.2 hc_9) ?_
          refine s_b2s hm rfl Try.underlying26 Try.underlying5 Try.underlying9 rfl hp0_0 (hA.trans hS.old) ?_
          clear hm a; intro a hm
          refine s_on hm rfl rfl (beq_iff_eq.2 hc_9) ?_
          refine s_fieldAddr hm rfl Try.underlying45 rfl ti43 rfl rfl ?_
          clear hm a; intro a hm
          refine s_on hm rfl rfl (beq_iff_eq.2 hc_9) ?_
          refine s_fieldAddr hm rfl Try.underlying43 rfl ti26 rfl rfl ?_
          clear hm a; intro a hm
          refine s_on hm rfl rfl (beq_iff_eq.2 hc_9) ?_
          refine s_load hm rfl rfl (hS.load_one (p := 2) rfl Try.underlying26 rfl rfl) ?_
          clear hm a; intro a hm
          refine s_on hm rfl rfl (beq_iff_eq.2 hc_9) ?_
          refine s_b2s hm rfl Try.underlying26 Try.underlying5 Try.underlying9 rfl hp1_3 (hA.trans hS.old) ?_
          clear hm a; intro a hm
          refine s_on hm rfl rfl (beq_iff_eq.2 hc_9) ?_
          refine s_strEq (b := (x0.Cmd.Key == x1.Cmd.Key)) hm rfl rfl rfl (.inl ⟨rfl, rfl⟩) ?_
          clear hm a; intro a hm
          refine s_pick_t hm rfl rfl (beq_iff_eq.2 hc_9) rfl ?_
          clear hm a; intro a hm
          refine s_move hm rfl rfl ?_
          clear hm a; intro a hm
          by_cases hc_10 : x0.Cmd.Key = x1.Cmd.Key
          · rw [if_pos hc_10] at H
            refine s_on hm rfl rfl (beq_iff_eq.2 hc_10) ?_
            refine s_fieldAddr hm rfl Try.underlying45 rfl ti43 rfl rfl ?_
            clear hm a; intro a hm
            refine s_on hm rfl rfl (beq_iff_eq.2 hc_10) ?_
            refine s_fieldAddr hm rfl Try.underlying43 rfl ti26 rfl rfl ?_
            clear hm a; intro a hm
            refine s_on hm rfl rfl (beq_iff_eq.2 hc_10) ?_
            refine s_load hm rfl rfl (hS.load_one (p := 1) rfl Try.underlying26 rfl rfl) ?_
            clear hm a; intro a hm
            refine s_on hm rfl rfl (beq_iff_eq.2 hc_10) ?_
            refine s_b2s hm rfl Try.underlying26 Try.underlying5 Try.underlying9 rfl hp0_1 (hA.trans hS.old) ?_
            clear hm a; intro a hm
            refine s_on hm rfl rfl (beq_iff_eq.2 hc_10) ?_
            refine s_fieldAddr hm rfl Try.underlying45 rfl ti43 rfl rfl ?_
            clear hm a; intro a hm
            refine s_on hm rfl rfl (beq_iff_eq.2 hc_10) ?_
            refine s_fieldAddr hm rfl Try.underlying43 rfl ti26 rfl rfl ?_
            clear hm a; intro a hm
            refine s_on hm rfl rfl (beq_iff_eq.2 hc_10) ?_
            refine s_load hm rfl rfl (hS.load_one (p := 2) rfl Try.underlying26 rfl rfl) ?_
            clear hm a; intro a hm
            refine s_on hm rfl rfl (beq_iff_eq.2 hc_10) ?_
            refine s_b2s hm rfl Try.underlying26 Try.underlying5 Try.underlying9 rfl hp1_4 (hA.trans hS.old) ?_
            clear hm a; intro a hm
            refine s_on hm rfl rfl (beq_iff_eq.2 hc_10) ?_
            refine s_strEq (b := (x0.Cmd.Val == x1.Cmd.Val)) hm rfl rfl rfl (.inl ⟨rfl, rfl⟩) ?_
            clear hm a; intro a hm
            refine s_pick_t hm rfl rfl (beq_iff_eq.2 hc_10) rfl ?_
            clear hm a; intro a hm
            refine s_move hm rfl rfl ?_
            clear hm a; intro a hm
            by_cases hc_11 : x0.Cmd.Val = x1.Cmd.Val
            · rw [if_pos hc_11] at H
              refine s_on hm rfl rfl (beq_iff_eq.2 hc_11) ?_
              refine s_fieldAddr hm rfl Try.underlying45 rfl ti43 rfl rfl ?_
              clear hm a; intro a hm
              refine s_on hm rfl rfl (beq_iff_eq.2 hc_11) ?_
              refine s_fieldAddr hm rfl Try.underlying43 rfl ti26 rfl rfl ?_
              clear hm a; intro a hm
              refine s_on hm rfl rfl (beq_iff_eq.2 hc_11) ?_
              refine s_load hm rfl rfl (hS.load_one (p := 1) rfl Try.underlying26 rfl rfl) ?_
              clear hm a; intro a hm
              refine s_on hm rfl rfl (beq_iff_eq.2 hc_11) ?_
              refine s_b2s hm rfl Try.underlying26 Try.underlying5 Try.underlying9 rfl hp0_2 (hA.trans hS.old) ?_
              clear hm a; intro a hm
              refine s_on hm rfl rfl (beq_iff_eq.2 hc_11) ?_
              refine s_fieldAddr hm rfl Try.underlying45 rfl ti43 rfl rfl ?_
              clear hm a; intro a hm
              refine s_on hm rfl rfl (beq_iff_eq.2 hc_11) ?_
              refine s_fieldAddr hm rfl Try.underlying43 rfl ti26 rfl rfl ?_
              clear hm a; intro a hm
              refine s_on hm rfl rfl (beq_iff_eq.2 hc_11) ?_
              refine s_load hm rfl rfl (hS.load_one (p := 2) rfl Try.underlying26 rfl rfl) ?_
              clear hm a; intro a hm
              refine s_on hm rfl rfl (beq_iff_eq.2 hc_11) ?_
              refine s_b2s hm rfl Try.underlying26 Try.underlying5 Try.underlying9 rfl hp1_5 (hA.trans hS.old) ?_
              clear hm a; intro a hm
              refine s_on hm rfl rfl (beq_iff_eq.2 hc_11) ?_
              refine s_strEq (b := (x0.Cmd.Old == x1.Cmd.Old)) hm rfl rfl rfl (.inl ⟨rfl, rfl⟩) ?_
              clear hm a; intro a hm
              refine s_pick_t hm rfl rfl (beq_iff_eq.2 hc_11) rfl ?_
              clear hm a; intro a hm
              refine s_assign hm rfl rfl ?_
              clear hm a; intro a hm
              refine wpList_nil ?_
              replace hm : Fr 68 a [(4, .bool (x0.Cmd.Old == x1.Cmd.Old))] := hm.keep [4]
              refine x_then_n (hKJ_5 _ _ ?_)
              refine wp_ret ?_
              obtain rfl := Option.some.inj H
              exact f_ret hm (rs := [.tmp 4]) rfl (.tmp rfl .nil) ⟨_, rfl, Mem.no, rfl, (Sep.sel hS [0] (by decide))⟩
            · rw [if_neg hc_11] at H
              refine s_off hm rfl rfl rfl (beq_eq_false_iff_ne.2 hc_11) ?_
              clear hm a; intro a hm
              refine s_off hm rfl rfl rfl (beq_eq_false_iff_ne.2 hc_11) ?_
              clear hm a; intro a hm
              refine s_off hm rfl rfl rfl (beq_eq_false_iff_ne.2 hc_11) ?_
              clear hm a; intro a hm
              refine s_off hm rfl rfl rfl (beq_eq_false_iff_ne.2 hc_11) ?_
              clear hm a; intro a hm
              refine s_off hm rfl rfl rfl (beq_eq_false_iff_ne.2 hc_11) ?_
              clear hm a; intro a hm
              refine s_off hm rfl rfl rfl (beq_eq_false_iff_ne.2 hc_11) ?_
              clear hm a; intro a hm
              refine s_off hm rfl rfl rfl (beq_eq_false_iff_ne.2 hc_11) ?_
              clear hm a; intro a hm
              refine s_off hm rfl rfl rfl (beq_eq_false_iff_ne.2 hc_11) ?_
              clear hm a; intro a hm
              refine s_off hm rfl rfl rfl (beq_eq_false_iff_ne.2 hc_11) ?_
              clear hm a; intro a hm
              refine s_pick_f hm rfl rfl (beq_eq_false_iff_ne.2 hc_11) rfl ?_
              clear hm a; intro a hm
              refine s_assign hm rfl rfl ?_
              clear hm a; intro a hm
              refine wpList_nil ?_
              replace hm : Fr 68 a [(4, .bool false)] := hm.keep [4]
              refine x_then_n (hKJ_5 _ _ ?_)
              refine wp_ret ?_
              obtain rfl := Option.some.inj H
              exact f_ret hm (rs := [.tmp 4]) rfl (.tmp rfl .nil) ⟨_, rfl, Mem.no, rfl, (Sep.sel hS [0] (by decide))⟩
          · rw [if_neg hc_10] at H
            refine s_off hm rfl rfl rfl (beq_eq_false_iff_ne.2 hc_10) ?_
            clear hm a; intro a hm
            refine s_off hm rfl rfl rfl (beq_eq_false_iff_ne.2 hc_10) ?_
            clear hm a; intro a hm
            refine s_off hm rfl rfl rfl (beq_eq_false_iff_ne.2 hc_10) ?_
            clear hm a; intro a hm
            refine s_off hm rfl rfl rfl (beq_eq_false_iff_ne.2 hc_10) ?_
            clear hm a; intro a hm
            refine s_off hm rfl rfl rfl (beq_eq_false_iff_ne.2 hc_10) ?_
            clear hm a; intro a hm
            refine s_off hm rfl rfl rfl (beq_eq_false_iff_ne.2 hc_10) ?_
            clear hm a; intro a hm
            refine s_off hm rfl rfl rfl (beq_eq_false_iff_ne.2 hc_10) ?_
            clear hm a; intro a hm
            refine s_off hm rfl rfl rfl (beq_eq_false_iff_ne.2 hc_10) ?_
            clear hm a; intro a hm
            refine s_off hm rfl rfl rfl (beq_eq_false_iff_ne.2 hc_10) ?_
            clear hm a; intro a hm
            refine s_pick_f hm rfl rfl (beq_eq_false_iff_ne.2 hc_10) rfl ?_
            clear hm a; intro a hm
            refine s_move hm rfl rfl ?_
            clear hm a; intro a hm
            refine s_off hm rfl rfl rfl rfl ?_
            clear hm a; intro a hm
            refine s_off hm rfl rfl rfl rfl ?_
            clear hm a; intro a hm
            refine s_off hm rfl rfl rfl rfl ?_
            clear hm a; intro a hm
            refine s_off hm rfl rfl rfl rfl ?_
            clear hm a; intro a hm
            refine s_off hm rfl rfl rfl rfl ?_
            clear hm a; intro a hm
            refine s_off hm rfl rfl rfl rfl ?_
            clear hm a; intro a hm
            refine s_off hm rfl rfl rfl rfl ?_
            clear hm a; intro a hm
            refine s_off hm rfl rfl rfl rfl ?_
            clear hm a; intro a hm
            refine s_off hm rfl rfl rfl rfl ?_
            clear hm a; intro a hm
            refine s_pick_f hm rfl rfl rfl rfl ?_
            clear hm a; intro a hm
            refine s_assign hm rfl rfl ?_
            clear hm a; intro a hm
            refine wpList_nil ?_
            replace hm : Fr 68 a [(4, .bool false)] := hm.keep [4]
            refine x_then_n (hKJ_5 _ _ ?_)
            refine wp_ret ?_
            obtain rfl := Option.some.inj H
            exact f_ret hm (rs := [.tmp 4]) rfl (.tmp rfl .nil) ⟨_, rfl, Mem.no, rfl, (Sep.sel hS [0] (by decide))⟩
        · rw [if_neg hc_9] at H
          refine s_off hm rfl rfl rfl (beq_eq_false_iff_ne.2 hc_9) ?_
          clear hm a; intro a hm
          refine s_off hm rfl rfl rfl (beq_eq_false_iff_ne.2 hc_9) ?_
          clear hm a; intro a hm
          refine s_off hm rfl rfl rfl (beq_eq_false_iff_ne.2 hc_9) ?_
          clear hm a; intro a hm
          refine s_off hm rfl rfl rfl (beq_eq_false_iff_ne.2 hc_9) ?_
          clear hm a; intro a hm
          refine s_off hm rfl rfl rfl (beq_eq_false_iff_ne.2 hc_9) ?_
          clear hm a; intro a hm
          refine s_off hm rfl rfl rfl (beq_eq_false_iff_ne.2 hc_9) ?_
          clear hm a; intro a hm
          refine s_off hm rfl rfl rfl (beq_eq_false_iff_ne.2 hc_9) ?_
          clear hm a; intro a hm
          refine s_off hm rfl rfl rfl (beq_eq_false_iff_ne.2 hc_9) ?_
          clear hm a; intro a hm
          refine s_off hm rfl rfl rfl (beq_eq_false_iff_ne.2 hc_9) ?_
          clear hm a; intro a hm
          refine s_pick_f hm rfl rfl (beq_eq_false_iff_ne.2 hc_9) rfl ?_
          clear hm a; intro a hm
          refine s_move hm rfl rfl ?_
          clear hm a; intro a hm
          refine s_off hm rfl rfl rfl rfl ?_
          clear hm a; intro a hm
          refine s_off hm rfl rfl rfl rfl ?_
          clear hm a; intro a hm
          refine s_off hm rfl rfl rfl rfl ?_
          clear hm a; intro a hm
          refine s_off hm rfl rfl rfl rfl ?_
          clear hm a; intro a hm
          refine s_off hm rfl rfl rfl rfl ?_
          clear hm a; intro a hm
          refine s_off hm rfl rfl rfl rfl ?_
          clear hm a; intro a hm
          refine s_off hm rfl rfl rfl rfl ?_
          clear hm a; intro a hm
          refine s_off hm rfl rfl rfl rfl ?_
          clear hm a; intro a hm
          refine s_off hm rfl rfl rfl rfl ?_
          clear hm a; intro a hm
          refine s_pick_f hm rfl rfl rfl rfl ?_
          clear hm a; intro a hm
          refine s_move hm rfl rfl ?_
          clear hm a; intro a hm
          refine s_off hm rfl rfl rfl rfl ?_
          clear hm a; intro a hm
          refine s_off hm rfl rfl rfl rfl ?_
          clear hm a; intro a hm
          refine s_off hm rfl rfl rfl rfl ?_
          clear hm a; intro a hm
          refine s_off hm rfl rfl rfl rfl ?_
          clear hm a; intro a hm
          refine s_off hm rfl rfl rfl rfl ?_
          clear hm a; intro a hm
          refine s_off hm rfl rfl rfl rfl ?_
          clear hm a; intro a hm
          refine s_off hm rfl rfl rfl rfl ?_
          clear hm a; intro a hm
          refine s_off hm rfl rfl rfl rfl ?_
          clear hm a; intro a hm
          refine s_off hm rfl rfl rfl rfl ?_
          clear hm a; intro a hm
          refine s_pick_f hm rfl rfl rfl rfl ?_
          clear hm a; intro a hm
          refine s_assign hm rfl rfl ?_
          clear hm a; intro a hm
          refine wpList_nil ?_
          replace hm : Fr 68 a [(4, .bool false)] := hm.keep [4]
          refine x_then_n (hKJ_5 _ _ ?_)
          refine wp_ret ?_
          obtain rfl := Option.some.inj H
          exact f_ret hm (rs := [.tmp 4]) rfl (.tmp rfl .nil) ⟨_, rfl, Mem.no, rfl, (Sep.sel hS [0] (by decide))⟩
      · rw [if_neg hc_8] at H
        refine s_off hm rfl rfl rfl (beq_eq_false_iff_ne.2 hc_8) ?_
        clear hm a; intro a hm
        refine s_off hm rfl rfl rfl (beq_eq_false_iff_ne.2 hc_8) ?_
        clear hm a; intro a hm
        refine s_off hm rfl rfl rfl (beq_eq_false_iff_ne.2 hc_8) ?_
        clear hm a; intro a hm
        refine s_off hm rfl rfl rfl (beq_eq_false_iff_ne.2 hc_8) ?_
        clear hm a; intro a hm
        refine s_off hm rfl rfl rfl (beq_eq_false_iff_ne.2 hc_8) ?_
        clear hm a; intro a hm
        refine s_off hm rfl rfl rfl (beq_eq_false_iff_ne.2 hc_8) ?_
        clear hm a; intro a hm
        refine s_off hm rfl rfl rfl (beq_eq_false_iff_ne.2 hc_8) ?_
        clear hm a; intro a hm
        refine s_pick_f hm rfl rfl (beq_eq_false_iff_ne.2 hc_8) rfl ?_
        clear hm a; intro a hm
        refine s_move hm rfl rfl ?_
        clear hm a; intro a hm
        refine s_off hm rfl rfl rfl rfl ?_
        clear hm a; intro a hm
        refine s_off hm rfl rfl rfl rfl ?_
        clear hm a; intro a hm
        refine s_off hm rfl rfl rfl rfl ?_
        clear hm a; intro a hm
        refine s_off hm rfl rfl rfl rfl ?_
        clear hm a; intro a hm
        refine s_off hm rfl rfl rfl rfl ?_
        clear hm a; intro a hm
        refine s_off hm rfl rfl rfl rfl ?_
        clear hm a; intro a hm
        refine s_off hm rfl rfl rfl rfl ?_
        clear hm a; intro a hm
        refine s_off hm rfl rfl rfl rfl ?_
        clear hm a; intro a hm
        refine s_off hm rfl rfl rfl rfl ?_
        clear hm a; intro a hm
        refine s_pick_f hm rfl rfl rfl rfl ?_
        clear hm a; intro a hm
        refine s_move hm rfl rfl ?_
        clear hm a; intro a hm
        refine s_off hm rfl rfl rfl rfl ?_
        clear hm a; intro a hm
        refine s_off hm rfl rfl rfl rfl ?_
        clear hm a; intro a hm
        refine s_off hm rfl rfl rfl rfl ?_
        clear hm a; intro a hm
        refine s_off hm rfl rfl rfl rfl ?_
        clear hm a; intro a hm
        refine s_off hm rfl rfl rfl rfl ?_
        clear hm a; intro a hm
        refine s_off hm rfl rfl rfl rfl ?_
        clear hm a; intro a hm
        refine s_off hm rfl rfl rfl rfl ?_
        clear hm a; intro a hm
        refine s_off hm rfl rfl rfl rfl ?_
        clear hm a; intro a hm
        refine s_off hm rfl rfl rfl rfl ?_
        clear hm a; intro a hm
        refine s_pick_f hm rfl rfl rfl rfl ?_
        clear hm a; intro a hm
        refine s_move hm rfl rfl ?_
        clear hm a; intro a hm
        refine s_off hm rfl rfl rfl rfl ?_
        clear hm a; intro a hm
        refine s_off hm rfl rfl rfl rfl ?_
        clear hm a; intro a hm
        refine s_off hm rfl rfl rfl rfl ?_
        clear hm a; intro a hm
        refine s_off hm rfl rfl rfl rfl ?_
        clear hm a; intro a hm
        refine s_off hm rfl rfl rfl rfl ?_
        clear hm a; intro a hm
        refine s_off hm rfl rfl rfl rfl ?_
        clear hm a; intro a hm
        refine s_off hm rfl rfl rfl rfl ?_
        clear hm a; intro a hm
        refine s_off hm rfl rfl rfl rfl ?_
        clear hm a; intro a hm
        refine s_off hm rfl rfl rfl rfl ?_
        clear hm a; intro a hm
        refine s_pick_f hm rfl rfl rfl rfl ?_
        clear hm a; intro a hm
        refine s_assign hm rfl rfl ?_
        clear hm a; intro a hm
        refine wpList_nil ?_
        replace hm : Fr 68 a [(4, .bool false)] := hm.keep [4]
        refine x_then_n (hKJ_5 _ _ ?_)
        refine wp_ret ?_
        obtain rfl := Option.some.inj H
        exact f_ret hm (rs := [.tmp 4]) rfl (.tmp rfl .nil) ⟨_, rfl, Mem.no, rfl, (Sep.sel hS [0] (by decide))⟩
    · rw [if_neg hc_7] at H
      refine s_off hm rfl rfl rfl (beq_eq_false_iff_ne.2 hc_7) ?_
      clear hm a; intro a hm
      refine s_off hm rfl rfl rfl (beq_eq_false_iff_ne.2 hc_7) ?_
      clear hm a; intro a hm
      refine s_off hm rfl rfl rfl (beq_eq_false_iff_ne.2 hc_7) ?_
      clear hm a; intro a hm
      refine s_off hm rfl rfl rfl (beq_eq_false_iff_ne.2 hc_7) ?_
      clear hm a; intro a hm
      refine s_off hm rfl rfl rfl (beq_eq_false_iff_ne.2 hc_7) ?_
      clear hm a; intro a hm
      refine s_off hm rfl rfl rfl (beq_eq_false_iff_ne.2 hc_7) ?_
      clear hm a; intro a hm
      refine s_off hm rfl rfl rfl (beq_eq_false_iff_ne.2 hc_7) ?_
      clear hm a; intro a hm
      refine s_pick_f hm rfl rfl (beq_eq_false_iff_ne.2 hc_7) rfl ?_
      clear hm a; intro a hm
      refine s_move hm rfl rfl ?_
      clear hm a; intro a hm
      refine s_off hm rfl rfl rfl rfl ?_
      clear hm a; intro a hm
      refine s_off hm rfl rfl rfl rfl ?_
      clear hm a; intro a hm
      refine s_off hm rfl rfl rfl rfl ?_
      clear hm a; intro a hm
      refine s_off hm rfl rfl rfl rfl ?_
      clear hm a; intro a hm
      refine s_off hm rfl rfl rfl rfl ?_
      clear hm a; intro a hm
      refine s_off hm rfl rfl rfl rfl ?_
      clear hm a; intro a hm
      refine s_off hm rfl rfl rfl rfl ?_
      clear hm a; intro a hm
      refine s_pick_f hm rfl rfl rfl rfl ?_
      clear hm a; intro a hm
      refine s_move hm rfl rfl ?_
      clear hm a; intro a hm
      refine s_off hm rfl rfl rfl rfl ?_
      clear hm a; intro a hm
      refine s_off hm rfl rfl rfl rfl ?_
      clear hm a; intro a hm
      refine s_off hm rfl rfl rfl rfl ?_
      clear hm a; intro a hm
      refine s_off hm rfl rfl rfl rfl ?_
      clear hm a; intro a hm
      refine s_off hm rfl rfl rfl rfl ?_
      clear hm a; intro a hm
      refine s_off hm rfl rfl rfl rfl ?_
      clear hm a; intro a hm
      refine s_off hm rfl rfl rfl rfl ?_
      clear hm a; intro a hm
      refine s_off hm rfl rfl rfl rfl ?_
      clear hm a; intro a hm
      refine s_off hm rfl rfl rfl rfl ?_
      clear hm a; intro a hm
      refine s_pick_f hm rfl rfl rfl rfl ?_
      clear hm a; intro a hm
      refine s_move hm rfl rfl ?_
      clear hm a; intro a hm
      refine s_off hm rfl rfl rfl rfl ?_
      clear hm a; intro a hm
      refine s_off hm rfl rfl rfl rfl ?_
      clear hm a; intro a hm
      refine s_off hm rfl rfl rfl rfl ?_
      clear hm a; intro a hm
      refine s_off hm rfl rfl rfl rfl ?_
      clear hm a; intro a hm
      refine s_off hm rfl rfl rfl rfl ?_
      clear hm a; intro a hm
      refine s_off hm rfl rfl rfl rfl ?_
      clear hm a; intro a hm
      refine s_off hm rfl rfl rfl rfl ?_
      clear hm a; intro a hm
      refine s_off hm rfl rfl rfl rfl ?_
      clear hm a; intro a hm
      refine s_off hm rfl rfl rfl rfl ?_
      clear hm a; intro a hm
      refine s_pick_f hm rfl rfl rfl rfl ?_
      clear hm a; intro a hm
      refine s_move hm rfl rfl ?_
      clear hm a; intro a hm
      refine s_off hm rfl rfl rfl rfl ?_
      clear hm a; intro a hm
      refine s_off hm rfl rfl rfl rfl ?_
      clear hm a; intro a hm
      refine s_off hm rfl rfl rfl rfl ?_
      clear hm a; intro a hm
      refine s_off hm rfl rfl rfl rfl ?_
      clear hm a; intro a hm
      refine s_off hm rfl rfl rfl rfl ?_
      clear hm a; intro a hm
      refine s_off hm rfl rfl rfl rfl ?_
      clear hm a; intro a hm
      refine s_off hm rfl rfl rfl rfl ?_
      clear hm a; intro a hm
      refine s_off hm rfl rfl rfl rfl ?_
      clear hm a; intro a hm
      refine s_off hm rfl rfl rfl rfl ?_
      clear hm a; intro a hm
      refine s_pick_f hm rfl rfl rfl rfl ?_
      clear hm a; intro a hm
      refine s_assign hm rfl rfl ?_
      clear hm a; intro a hm
      refine wpList_nil ?_
      replace hm : Fr 68 a [(4, .bool false)] := hm.keep [4]
      refine x_then_n (hKJ_5 _ _ ?_)
      refine wp_ret ?_
      obtain rfl := Option.some.inj H
      exact f_ret hm (rs := [.tmp 4]) rfl (.tmp rfl .nil) ⟨_, rfl, Mem.no, rfl, (Sep.sel hS [0] (by decide))⟩
  · rw [if_neg hc_6] at H
    refine s_off hm rfl rfl rfl (beq_eq_false_iff_ne.2 hc_6) ?_
    clear hm a; intro a hm
    refine s_off hm rfl rfl rfl (beq_eq_false_iff_ne.2 hc_6) ?_
    clear hm a; intro a hm
    refine s_off hm rfl rfl rfl (beq_eq_false_iff_ne.2 hc_6) ?_
    clear hm a; intro a hm
    refine s_off hm rfl rfl rfl (beq_eq_false_iff_ne.2 hc_6) ?_
    clear hm a; intro a hm
    refine s_off hm rfl rfl rfl (beq_eq_false_iff_ne.2 hc_6) ?_
    clear hm a; intro a hm
    refine s_pick_f hm rfl rfl (beq_eq_false_iff_ne.2 hc_6) rfl ?_
    clear hm a; intro a hm
    refine s_move hm rfl rfl ?_
    clear hm a; intro a hm
    refine s_off hm rfl rfl rfl rfl ?_
    clear hm a; intro a hm
    refine s_off hm rfl rfl rfl rfl ?_
    clear hm a; intro a hm
    refine s_off hm rfl rfl rfl rfl ?_
    clear hm a; intro a hm
    refine s_off hm rfl rfl rfl rfl ?_
    clear hm a; intro a hm
    refine s_off hm rfl rfl rfl rfl ?_
    clear hm a; intro a hm
    refine s_off hm rfl rfl rfl rfl ?_
    clear hm a; intro a hm
    refine s_off hm rfl rfl rfl rfl ?_
    clear hm a; intro a hm
    refine s_pick_f hm rfl rfl rfl rfl ?_
    clear hm a; intro a hm
    refine s_move hm rfl rfl ?_
    clear hm a; intro a hm
    refine s_off hm rfl rfl rfl rfl ?_
    clear hm a; intro a hm
    refine s_off hm rfl rfl rfl rfl ?_
    clear hm a; intro a hm
    refine s_off hm rfl rfl rfl rfl ?_
    clear hm a; intro a hm
    refine s_off hm rfl rfl rfl rfl ?_
    clear hm a; intro a hm
    refine s_off hm rfl rfl rfl rfl ?_
    clear hm a; intro a hm
    refine s_off hm rfl rfl rfl rfl ?_
    clear hm a; intro a hm
    refine s_off hm rfl rfl rfl rfl ?_
    clear hm a; intro a hm
    refine s_pick_f hm rfl rfl rfl rfl ?_
    clear hm a; intro a hm
    refine s_move hm rfl rfl ?_
    clear hm a; intro a hm
    refine s_off hm rfl rfl rfl rfl ?_
    clear hm a; intro a hm
    refine s_off hm rfl rfl rfl rfl ?_
    clear hm a; intro a hm
    refine s_off hm rfl rfl rfl rfl ?_
    clear hm a; intro a hm
    refine s_off hm rfl rfl rfl rfl ?_
    clear hm a; intro a hm
    refine s_off hm rfl rfl rfl rfl ?_
    clear hm a; intro a hm
    refine s_off hm rfl rfl rfl rfl ?_
    clear hm a; intro a hm
    refine s_off hm rfl rfl rfl rfl ?_
    clear hm a; intro a hm
    refine s_off hm rfl rfl rfl rfl ?_
    clear hm a; intro a hm
    refine s_off hm rfl rfl rfl rfl ?_
    clear hm a; intro a hm
    refine s_pick_f hm rfl rfl rfl rfl ?_
    clear hm a; intro a hm
    refine s_move hm rfl rfl ?_
    clear hm a; intro a hm
    refine s_off hm rfl rfl rfl rfl ?_
    clear hm a; intro a hm
    refine s_off hm rfl rfl rfl rfl ?_
    clear hm a; intro a hm
    refine s_off hm rfl rfl rfl rfl ?_
    clear hm a; intro a hm
    refine s_off hm rfl rfl rfl rfl ?_
    clear hm a; intro a hm
    refine s_off hm rfl rfl rfl rfl ?_
    clear hm a; intro a hm
    refine s_off hm rfl rfl rfl rfl ?_
    clear hm a; intro a hm
    refine s_off hm rfl rfl rfl rfl ?_
    clear hm a; intro a hm
    refine s_off hm rfl rfl rfl rfl ?_
    clear hm a; intro a hm
    refine s_off hm rfl rfl rfl rfl ?_
    clear hm a; intro a hm
    refine s_pick_f hm rfl rfl rfl rfl ?_
    clear hm a; intro a hm
    refine s_move hm rfl rfl ?_
    clear hm a; intro a hm
    refine s_off hm rfl rfl rfl rfl ?_
    clear hm a; intro a hm
    refine s_off hm rfl rfl rfl rfl ?_
    clear hm a; intro a hm
    refine s_off hm rfl rfl rfl rfl ?_
    clear hm a; intro a hm
    refine s_off hm rfl rfl rfl rfl ?_
    clear hm a; intro a hm
    refine s_off hm rfl rfl rfl rfl ?_
    clear hm a; intro a hm
    refine s_off hm rfl rfl rfl rfl ?_
    clear hm a; intro a hm
    refine s_off hm rfl rfl rfl rfl ?_
    clear hm a; intro a hm
    refine s_off hm rfl rfl rfl rfl ?_
    clear hm a; intro a hm
    refine s_off hm rfl rfl rfl rfl ?_
    clear hm a; intro a hm
    refine s_pick_f hm rfl rfl rfl rfl ?_
    clear hm a; intro a hm
    refine s_assign hm rfl rfl ?_
    clear hm a; intro a hm
    refine wpList_nil ?_
    replace hm : Fr 68 a [(4, .bool false)] := hm.keep [4]
    refine x_then_n (hKJ_5 _ _ ?_)
    refine wp_ret ?_
    obtain rfl := Option.some.inj H
    exact f_ret hm (rs := [.tmp 4]) rfl (.tmp rfl .nil) ⟨_, rfl, Mem.no, rfl, (Sep.sel hS [0] (by decide))⟩

set_option maxHeartbeats 4000000 in
set_option maxRecDepth 20000 in
theorem hocketref15_Calls_Call.calls (K : Nat) (g0 : Nat) (x0_l : List hocketref15_call) (p0_0 : Value) (M0_0 : Mem) (x0_r : List api_Reply) (p0_1 : Value) (M0_1 : Mem) (x1 : api_Entry) (p1_2 : Value) (p1_3 : Value) (p1_4 : Value) (r : Bool × (List hocketref15_call) × (List api_Reply)) (w0 w : World) (Z A : Mem) (hA : A.le Z) (hS : Sep w0 w [Mem.one g0 (.cells ([p0_0, p0_1] : List Value).toArray 63 (0, 0)), M0_0, M0_1] Z) (hp0_0 : Own k_hocketref15_call 84 M0_0 A p0_0 x0_l) (hp0_1 : Own k_api_Reply 56 M0_1 A p0_1 x0_r) (hp1_2 : Rd Kd.u8 A p1_2 x1.Cmd.Key) (hp1_3 : Rd Kd.u8 A p1_3 x1.Cmd.Val) (hp1_4 : Rd Kd.u8 A p1_4 x1.Cmd.Old)
    (H : hocketref15_Calls_Call.f K x0_l x0_r x1 = some r) :
    Calls Try.prog 31 [.pointer (some ⟨g0, 0, none⟩), .agg ([.int .i64 x1.Sess, .int .i64 x1.Seq, .int .i64 x1.Cmd.Kind, .int .i64 x1.Cmd.Who, p1_2, p1_3, p1_4] : List Value).toArray].toArray w (Ret fun v w' => ∃ (u0 : Value) (u1 : Value) (N : Mem) (M100 : Mem) (M101 : Mem), v = .bool r.1 ∧ Sep w0 w' [N, Mem.one g0 (.cells ([u0, u1] : List Value).toArray 63 (0, 0)), M100, M101] Z ∧ Own k_hocketref15_call 84 M100 (A.un N) u0 r.2.1 ∧ Own k_api_Reply 56 M101 (A.un N) u1 r.2.2) := by
  unfold hocketref15_Calls_Call.f at H
  refine f_enter _ Try.func31 rfl Try.ntmps31 rfl fun a hm => ?_
  replace hm : Fr 60 a [(0, .pointer (some ⟨g0, 0, none⟩)), (1, .agg ([.int .i64 x1.Sess, .int .i64 x1.Seq, .int .i64 x1.Cmd.Kind, .int .i64 x1.Cmd.Who, p1_2, p1_3, p1_4] : List Value).toArray)] := hm
  replace hS := hS.start
  replace hS : Sep w0 w [Mem.no, Mem.one g0 (.cells ([p0_0, p0_1] : List Value).toArray 63 (0, 0)), M0_0, M0_1] Z := hS
  refine wp_seq ?_
  refine wp_region_lit ?_
  refine v_box (vs := [.int .i64 x1.Sess, .int .i64 x1.Seq, .int .i64 x1.Cmd.Kind, .int .i64 x1.Cmd.Who, p1_2, p1_3, p1_4]) hm rfl rfl rfl hS ?_
  intro w_1 g_2 hS'
  clear hm a; intro a hm
  replace hS : Sep w0 w_1 [Mem.no, Mem.one g0 (.cells ([p0_0, p0_1] : List Value).toArray 63 (0, 0)), M0_0, M0_1, Mem.one g_2 (.cells ([.int .i64 x1.Sess, .int .i64 x1.Seq, .int .i64 x1.Cmd.Kind, .int .i64 x1.Cmd.Who, p1_2, p1_3, p1_4] : List Value).toArray 45 (0, 0))] Z := hS'
  clear hS'
  refine s_assign hm rfl rfl ?_
  clear hm a; intro a hm
  refine wpList_nil ?_
  replace hm : Fr 60 a [(0, .pointer (some ⟨g0, 0, none⟩)), (3, .pointer (some ⟨g_2, 0, none⟩)), (4, .bool false)] := hm.keep [0, 3, 4]
  refine x_then_n ?_
  refine c_seq fun KJ_3 hKJ_3 => ?_
  refine wp_seq ?_
  refine wp_region_lit ?_
  refine s_assign hm rfl rfl ?_
  clear hm a; intro a hm
  refine wpList_nil ?_
  replace hm : Fr 60 a [(0, .pointer (some ⟨g0, 0, none⟩)), (3, .pointer (some ⟨g_2, 0, none⟩)), (4, .bool false), (5, .int .i64 0)] := hm.keep [0, 3, 4, 5]
  refine x_then_n ?_
  have hJ_j_6 : hocketref15_Calls_Call.J1 K x0_l x0_r x1 = some r → ∀ (a : Act) (w_5 : World), (∃ (N_4 : Mem), Fr 60 a [(0, .pointer (some ⟨g0, 0, none⟩)), (3, .pointer (some ⟨g_2, 0, none⟩)), (4, .bool false)] ∧ Sep w0 w_5 [N_4, Mem.one g0 (.cells ([p0_0, p0_1] : List Value).toArray 63 (0, 0)), M0_0, M0_1, Mem.one g_2 (.cells ([.int .i64 x1.Sess, .int .i64 x1.Seq, .int .i64 x1.Cmd.Kind, .int .i64 x1.Cmd.Who, p1_2, p1_3, p1_4] : List Value).toArray 45 (0, 0))] Z ∧ Mem.no.le N_4) → KJ_3 a w_5 := by
    clear H hm hS a
    rintro H a w_5 ⟨N_4, hm, hS, le_4⟩
    unfold hocketref15_Calls_Call.J1 at H
    refine hKJ_3 _ _ ?_
    refine c_seq fun KJ_7 hKJ_7 => ?_
    refine wp_seq ?_
    refine wp_region_lit ?_
    refine s_move hm rfl rfl ?_
    clear hm a; intro a hm
    refine s_nilCheck hm rfl rfl ?_
    clear hm a; intro a hm
    refine s_fieldAddr hm rfl Try.underlying63 rfl ti61 rfl rfl ?_
    clear hm a; intro a hm
    refine s_load hm rfl rfl (hS.load_one (p := 1) rfl Try.underlying61 rfl rfl) ?_
    clear hm a; intro a hm
    refine s_lenO hm rfl Try.underlying61 rfl hp0_0 ?_
    clear hm a; intro a hm
    refine s_cmp (b := decide ((x0_l.length : Int) ≥ 8)) hm rfl rfl rfl (.inr (.inr (.inr (.inr (.inr ⟨rfl, rfl⟩))))) ?_
    clear hm a; intro a hm
    refine wpList_nil ?_
    replace hm : Fr 60 a [(0, .pointer (some ⟨g0, 0, none⟩)), (3, .pointer (some ⟨g_2, 0, none⟩)), (4, .bool false), (46, .bool (decide ((x0_l.length : Int) ≥ 8)))] := hm.keep [0, 3, 4, 46]
    refine x_then_n ?_
    by_cases hc_8 : (x0_l.length : Int) ≥ 8
    · rw [if_pos hc_8] at H
      refine c_cond_t hm rfl (decide_eq_true hc_8) ?_
      refine wp_seq ?_
      refine wp_region_lit ?_
      refine s_assign hm rfl rfl ?_
      clear hm a; intro a hm
      refine wpList_nil ?_
      replace hm : Fr 60 a [(0, .pointer (some ⟨g0, 0, none⟩)), (3, .pointer (some ⟨g_2, 0, none⟩)), (4, .bool false)] := hm.keep [0, 3, 4]
      refine x_then_n ?_
      refine wp_ret (x_then_r ?_)
      obtain rfl := Option.some.inj H
      exact f_ret hm (rs := [.tmp 4]) rfl (.tmp rfl .nil) ⟨_, rfl, p0_0, p0_1, N_4, M0_0, M0_1, rfl, (Sep.sel hS [0, 1, 2, 3] (by decide)), (hp0_0.mono (Mem.le_un _ _)), (hp0_1.mono (Mem.le_un _ _))⟩
    · rw [if_neg hc_8] at H
      refine c_cond_f hm rfl (decide_eq_false hc_8) ?_
      refine wp_skip ?_
      refine x_then_n (hKJ_7 _ _ ?_)
      refine c_seq fun KJ_9 hKJ_9 => ?_
      refine h_begin (S := fun w => Sep w0 w [N_4, Mem.no, M0_0, M0_1, Mem.one g_2 (.cells ([.int .i64 x1.Sess, .int .i64 x1.Seq, .int .i64 x1.Cmd.Kind, .int .i64 x1.Cmd.Who, p1_2, p1_3, p1_4] : List Value).toArray 45 (0, 0))] Z) 14 (by kernel_rfl) rfl [false, false, false, false, false, false, false, false, false, false, false, false, false, false].toArray rfl hS fun w_10 hS => ?_
      replace hS : Sep w0 w_10 [N_4, Mem.one g0 (.cells ([p0_0, p0_1] : List Value).toArray 63 (0, 0)), M0_0, M0_1, Mem.one g_2 (.cells ([.int .i64 x1.Sess, .int .i64 x1.Seq, .int .i64 x1.Cmd.Kind, .int .i64 x1.Cmd.Who, p1_2, p1_3, p1_4] : List Value).toArray 45 (0, 0))] Z := hS
      refine h_take 0 [true, false, false, false, false, false, false, false, false, false, false, false, false, false].toArray rfl (by kernel_rfl) (by kernel_rfl) (by kernel_rfl) (fun _ _ _ _ h => h) rfl rfl rfl rfl hm (hS.sub (.cons (Mem.le.refl _) (.cons (Mem.no_le _) (.cons (Mem.le.refl _) (.cons (Mem.le.refl _) (.cons (Mem.le.refl _) (Sub.nil _))))))) (v := .pointer (some ⟨g0, 0, none⟩)) (fun w hS => r_move hm rfl) ?_
      clear hm a; intro a hm
      refine h_take 2 [true, false, true, false, false, false, false, false, false, false, false, false, false, false].toArray rfl (by kernel_rfl) (by kernel_rfl) (by kernel_rfl) (fun _ _ _ _ h => h) rfl rfl rfl rfl hm (hS.sub (.cons (Mem.le.refl _) (.cons (Mem.no_le _) (.cons (Mem.le.refl _) (.cons (Mem.le.refl _) (.cons (Mem.le.refl _) (Sub.nil _))))))) (v := .pointer (some ⟨g0, 0, none⟩)) (fun w hS => r_move hm rfl) ?_
      clear hm a; intro a hm
      refine h_take 3 [true, false, true, true, false, false, false, false, false, false, false, false, false, false].toArray rfl (by kernel_rfl) (by kernel_rfl) (by kernel_rfl) (fun _ _ _ _ h => h) rfl rfl rfl rfl hm (hS.sub (.cons (Mem.le.refl _) (.cons (Mem.no_le _) (.cons (Mem.le.refl _) (.cons (Mem.le.refl _) (.cons (Mem.le.refl _) (Sub.nil _))))))) (v := .pointer (some ⟨g0, 0, none⟩)) (fun w hS => r_nilCheck hm rfl) ?_
      clear hm a; intro a hm
      refine h_take 4 [true, false, true, true, true, false, false, false, false, false, false, false, false, false].toArray rfl (by kernel_rfl) (by kernel_rfl) (by kernel_rfl) (fun _ _ _ _ h => h) rfl rfl rfl rfl hm (hS.sub (.cons (Mem.le.refl _) (.cons (Mem.no_le _) (.cons (Mem.le.refl _) (.cons (Mem.le.refl _) (.cons (Mem.le.refl _) (Sub.nil _))))))) (v := .pointer (some ⟨g0, 0, none⟩)) (fun w hS => r_fieldAddr hm Try.underlying63 rfl ti61 rfl rfl rfl) ?_
      clear hm a; intro a hm
      refine h_take 7 [true, false, true, true, true, false, false, true, false, false, false, false, false, false].toArray rfl (by kernel_rfl) (by kernel_rfl) (by kernel_rfl) (fun _ _ _ _ h => h) rfl rfl rfl rfl hm (hS.sub (.cons (Mem.le.refl _) (.cons (Mem.no_le _) (.cons (Mem.le.refl _) (.cons (Mem.le.refl _) (.cons (Mem.le.refl _) (Sub.nil _))))))) (v := .agg ([.int .i64 x1.Sess, .int .i64 x1.Seq, .int .i64 x1.Cmd.Kind, .int .i64 x1.Cmd.Who, p1_2, p1_3, p1_4] : List Value).toArray) (fun w hS => r_load hm rfl (hS.load_agg (p := 4) (us := [.int .i64 x1.Sess, .int .i64 x1.Seq, .int .i64 x1.Cmd.Kind, .int .i64 x1.Cmd.Who, p1_2, p1_3, p1_4]) rfl Try.underlying45 rfl ti45 rfl rfl)) ?_
      clear hm a; intro a hm
      refine h_take 8 [true, false, true, true, true, false, false, true, true, false, false, false, false, false].toArray rfl (by kernel_rfl) (by kernel_rfl) (by kernel_rfl) (fun _ _ _ _ h => h) rfl rfl rfl rfl hm (hS.sub (.cons (Mem.le.refl _) (.cons (Mem.no_le _) (.cons (Mem.le.refl _) (.cons (Mem.le.refl _) (.cons (Mem.le.refl _) (Sub.nil _))))))) (v := .agg ([.int .i64 x1.Sess, .int .i64 x1.Seq, .int .i64 x1.Cmd.Kind, .int .i64 x1.Cmd.Who, p1_2, p1_3, p1_4, .bool false] : List Value).toArray) (fun w hS => r_build hm ti84 pl84 rfl (.cons rfl .nil) (cs := [.int .i64 x1.Sess, .int .i64 x1.Seq, .int .i64 x1.Cmd.Kind, .int .i64 x1.Cmd.Who, p1_2, p1_3, p1_4, .bool false]) rfl) ?_
      clear hm a; intro a hm
      obtain ⟨t_17, et_17, H⟩ := Option.bind_eq_some_iff.1 H
      obtain ⟨t_29, et_29, H⟩ := Option.bind_eq_some_iff.1 H
      refine h_events [1, 5, 9] (by kernel_rfl) (by simp) ?_
      intro i hi; simp only [List.mem_cons, List.not_mem_nil, or_false] at hi; rcases hi with rfl | rfl | rfl
      · refine ⟨_, [true, true, true, true, true, false, false, true, true, false, false, false, false, false].toArray, rfl, rfl, ?_⟩
        have hq_15 : Reps k_hocketref15_call N_4 ([] : List hocketref15_call) _ := (Reps.nil k_hocketref15_call _)
        refine s_buildSlice hm rfl Try.underlying61 ti84 rfl rfl rfl .nil rfl rfl rfl hS hq_15 rfl ?_
        intro w_11 v_12 M_13 hS' ho_14
        clear hm a; intro a hm
        replace hS : Sep w0 w_11 [N_4, Mem.one g0 (.cells ([p0_0, p0_1] : List Value).toArray 63 (0, 0)), M0_0, M0_1, Mem.one g_2 (.cells ([.int .i64 x1.Sess, .int .i64 x1.Seq, .int .i64 x1.Cmd.Kind, .int .i64 x1.Cmd.Who, p1_2, p1_3, p1_4] : List Value).toArray 45 (0, 0)), M_13] Z := hS'
        clear hS' hq_15
        refine wpList_nil ?_
        refine x_then_n ⟨(hS.sub (.cons (Mem.le.refl _) (.cons (Mem.no_le _) (.cons (Mem.le.refl _) (.cons (Mem.le.refl _) (.cons (Mem.le.refl _) (Sub.nil _))))))), ?_⟩
        refine h_events [5, 9] (by kernel_rfl) (by simp) ?_
        intro i hi; simp only [List.mem_cons, List.not_mem_nil, or_false] at hi; rcases hi with rfl | rfl
        · refine ⟨_, [true, true, true, true, true, true, false, true, true, false, false, false, false, false].toArray, rfl, rfl, ?_⟩
          refine s_load hm rfl rfl (hS.load_one (p := 1) rfl Try.underlying61 rfl rfl) ?_
          clear hm a; intro a hm
          refine wpList_nil ?_
          refine x_then_n ⟨(hS.sub (.cons (Mem.le.refl _) (.cons (Mem.no_le _) (.cons (Mem.le.refl _) (.cons (Mem.le.refl _) (.cons (Mem.le.refl _) (Sub.nil _))))))), ?_⟩
          refine h_events [6, 9] (by kernel_rfl) (by simp) ?_
          intro i hi; simp only [List.mem_cons, List.not_mem_nil, or_false] at hi; rcases hi with rfl | rfl
          · refine ⟨_, [true, true, true, true, true, true, true, true, true, false, false, false, false, false].toArray, rfl, rfl, ?_⟩
            refine s_append (J := A) (I' := (A.un N_4)) (p := 5) 1256584717458 hm rfl rfl rfl Try.underlying61 ti84 rfl rfl rfl rfl hS rfl ho_14 (hp0_0.src (hS.own 2)) ((Mem.le.refl _).trans (hS.sndA hA)) (Mem.le_un _ _) et_17 ?_
            intro w_18 v_19 M_20 hS' ho_21
            clear hm a; intro a hm
            replace hS : Sep w0 w_18 [N_4, Mem.one g0 (.cells ([p0_0, p0_1] : List Value).toArray 63 (0, 0)), M0_0, M0_1, Mem.one g_2 (.cells ([.int .i64 x1.Sess, .int .i64 x1.Seq, .int .i64 x1.Cmd.Kind, .int .i64 x1.Cmd.Who, p1_2, p1_3, p1_4] : List Value).toArray 45 (0, 0)), M_20] Z := hS'
            clear hS'
            refine wpList_nil ?_
            refine x_then_n ⟨(hS.sub (.cons (Mem.le.refl _) (.cons (Mem.no_le _) (.cons (Mem.le.refl _) (.cons (Mem.le.refl _) (.cons (Mem.le.refl _) (Sub.nil _))))))), ?_⟩
            refine h_event 9 [true, true, true, true, true, true, true, true, true, true, false, false, false, false].toArray rfl (by kernel_rfl) rfl ?_
            have hq_27 : Reps k_hocketref15_call (A.un N_4) ([(⟨x1, false⟩ : hocketref15_call)] : List hocketref15_call) _ := ((Reps.one (d := k_hocketref15_call) (x := (⟨x1, false⟩ : hocketref15_call)) (k_hocketref15_call.mk' (hp1_2.mono (Mem.le_un _ _)) (hp1_3.mono (Mem.le_un _ _)) (hp1_4.mono (Mem.le_un _ _)))).append (Reps.nil k_hocketref15_call _))
            refine s_buildSlice hm rfl Try.underlying61 ti84 rfl rfl rfl (.cons rfl .nil) rfl rfl rfl hS hq_27 rfl ?_
            intro w_23 v_24 M_25 hS' ho_26
            clear hm a; intro a hm
            replace hS : Sep w0 w_23 [N_4, Mem.one g0 (.cells ([p0_0, p0_1] : List Value).toArray 63 (0, 0)), M0_0, M0_1, Mem.one g_2 (.cells ([.int .i64 x1.Sess, .int .i64 x1.Seq, .int .i64 x1.Cmd.Kind, .int .i64 x1.Cmd.Who, p1_2, p1_3, p1_4] : List Value).toArray 45 (0, 0)), M_20, M_25] Z := hS'
            clear hS' hq_27
            refine wpList_nil ?_
            refine x_then_n ⟨(hS.sub (.cons (Mem.le.refl _) (.cons (Mem.no_le _) (.cons (Mem.le.refl _) (.cons (Mem.le.refl _) (.cons (Mem.le.refl _) (Sub.nil _))))))), ?_⟩
            refine h_event 10 [true, true, true, true, true, true, true, true, true, true, true, false, false, false].toArray rfl (by kernel_rfl) rfl ?_
            refine s_append (J := (A.un N_4)) (I' := (A.un N_4)) (p := 5) 1256584717458 hm rfl rfl rfl Try.underlying61 ti84 rfl rfl rfl rfl hS rfl ho_21 (ho_26.src (hS.own 6)) (Mem.un_left (Mem.le.refl _)) (Mem.un_left (Mem.le.refl _)) et_29 ?_
            intro w_30 v_31 M_32 hS' ho_33
            clear hm a; intro a hm
            replace hS : Sep w0 w_30 [N_4, Mem.one g0 (.cells ([p0_0, p0_1] : List Value).toArray 63 (0, 0)), M0_0, M0_1, Mem.one g_2 (.cells ([.int .i64 x1.Sess, .int .i64 x1.Seq, .int .i64 x1.Cmd.Kind, .int .i64 x1.Cmd.Who, p1_2, p1_3, p1_4] : List Value).toArray 45 (0, 0)), M_32, M_25] Z := hS'
            clear hS'
            refine wpList_nil ?_
            refine x_then_n ⟨(hS.sub (.cons (Mem.le.refl _) (.cons (Mem.no_le _) (.cons (Mem.le.refl _) (.cons (Mem.le.refl _) (.cons (Mem.le.refl _) (Sub.nil _))))))), ?_⟩
            refine h_take 11 [true, true, true, true, true, true, true, true, true, true, true, true, false, false].toArray rfl (by kernel_rfl) (by kernel_rfl) (by kernel_rfl) (fun _ _ _ _ h => h) rfl rfl rfl rfl hm (hS.sub (.cons (Mem.le.refl _) (.cons (Mem.no_le _) (.cons (Mem.le.refl _) (.cons (Mem.le.refl _) (.cons (Mem.le.refl _) (Sub.nil _))))))) (v := .pointer (some ⟨g0, 0, none⟩)) (fun w hS => r_nilCheck hm rfl) ?_
            clear hm a; intro a hm
            refine h_take 12 [true, true, true, true, true, true, true, true, true, true, true, true, true, false].toArray rfl (by kernel_rfl) (by kernel_rfl) (by kernel_rfl) (fun _ _ _ _ h => h) rfl rfl rfl rfl hm (hS.sub (.cons (Mem.le.refl _) (.cons (Mem.no_le _) (.cons (Mem.le.refl _) (.cons (Mem.le.refl _) (.cons (Mem.le.refl _) (Sub.nil _))))))) (v := .pointer (some ⟨g0, 0, none⟩)) (fun w hS => r_fieldAddr hm Try.underlying63 rfl ti61 rfl rfl rfl) ?_
            clear hm a; intro a hm
            refine h_event 13 [true, true, true, true, true, true, true, true, true, true, true, true, true, true].toArray rfl (by kernel_rfl) rfl ?_
            obtain ⟨w_35, hs', hS'⟩ := hS.store (P := Try.prog) (p := 1) (o := 0) (t := 61) (v := v_31) (vs := [v_31]) rfl ti61 ho_33.cellsA rfl rfl (by intro u hu; simp only [List.mem_cons, List.not_mem_nil, or_false] at hu; rcases hu with rfl <;> first | rfl | exact ho_33.one)
            refine s_store hm rfl rfl hs' ?_
            replace hS : Sep w0 w_35 [N_4, Mem.one g0 (.cells ([v_31, p0_1] : List Value).toArray 63 (0, 0)), M0_0, M0_1, Mem.one g_2 (.cells ([.int .i64 x1.Sess, .int .i64 x1.Seq, .int .i64 x1.Cmd.Kind, .int .i64 x1.Cmd.Who, p1_2, p1_3, p1_4] : List Value).toArray 45 (0, 0)), M_32, M_25] Z := hS'
            clear hs' hS'
            refine wpList_nil ?_
            refine x_then_n ⟨(hS.sub (.cons (Mem.le.refl _) (.cons (Mem.no_le _) (.cons (Mem.le.refl _) (.cons (Mem.le.refl _) (.cons (Mem.le.refl _) (Sub.nil _))))))), ?_⟩
            refine h_done (by kernel_rfl) ?_
            replace hm : Fr 60 a [(4, .bool false)] := hm.keep [4]
            refine x_then_n (hKJ_9 _ _ ?_)
            refine wp_seq ?_
            refine wp_region_lit ?_
            refine s_assign hm rfl rfl ?_
            clear hm a; intro a hm
            refine wpList_nil ?_
            replace hm : Fr 60 a [(4, .bool true)] := hm.keep [4]
            refine x_then_n ?_
            refine wp_ret ?_
            obtain rfl := Option.some.inj H
            exact f_ret hm (rs := [.tmp 4]) rfl (.tmp rfl .nil) ⟨_, rfl, v_31, p0_1, N_4, M_32, M0_1, rfl, (Sep.sel hS [0, 1, 5, 3] (by decide)), (ho_33.mono (Mem.un_left (Mem.le.refl _))), (hp0_1.mono (Mem.le_un _ _))⟩
          · refine ⟨_, [true, true, true, true, true, true, false, true, true, true, false, false, false, false].toArray, rfl, rfl, ?_⟩
            have hq_40 : Reps k_hocketref15_call (A.un N_4) ([(⟨x1, false⟩ : hocketref15_call)] : List hocketref15_call) _ := ((Reps.one (d := k_hocketref15_call) (x := (⟨x1, false⟩ : hocketref15_call)) (k_hocketref15_call.mk' (hp1_2.mono (Mem.le_un _ _)) (hp1_3.mono (Mem.le_un _ _)) (hp1_4.mono (Mem.le_un _ _)))).append (Reps.nil k_hocketref15_call _))
            refine s_buildSlice hm rfl Try.underlying61 ti84 rfl rfl rfl (.cons rfl .nil) rfl rfl rfl hS hq_40 rfl ?_
            intro w_36 v_37 M_38 hS' ho_39
            clear hm a; intro a hm
            replace hS : Sep w0 w_36 [N_4, Mem.one g0 (.cells ([p0_0, p0_1] : List Value).toArray 63 (0, 0)), M0_0, M0_1, Mem.one g_2 (.cells ([.int .i64 x1.Sess, .int .i64 x1.Seq, .int .i64 x1.Cmd.Kind, .int .i64 x1.Cmd.Who, p1_2, p1_3, p1_4] : List Value).toArray 45 (0, 0)), M_13, M_38] Z := hS'
            clear hS' hq_40
            refine wpList_nil ?_
            refine x_then_n ⟨(hS.sub (.cons (Mem.le.refl _) (.cons (Mem.no_le _) (.cons (Mem.le.refl _) (.cons (Mem.le.refl _) (.cons (Mem.le.refl _) (Sub.nil _))))))), ?_⟩
            refine h_event 6 [true, true, true, true, true, true, true, true, true, true, false, false, false, false].toArray rfl (by kernel_rfl) rfl ?_
            refine s_append (J := A) (I' := (A.un N_4)) (p := 5) 1256584717458 hm rfl rfl rfl Try.underlying61 ti84 rfl rfl rfl rfl hS rfl ho_14 (hp0_0.src (hS.own 2)) ((Mem.le.refl _).trans (hS.sndA hA)) (Mem.le_un _ _) et_17 ?_
            intro w_43 v_44 M_45 hS' ho_46
            clear hm a; intro a hm
            replace hS : Sep w0 w_43 [N_4, Mem.one g0 (.cells ([p0_0, p0_1] : List Value).toArray 63 (0, 0)), M0_0, M0_1, Mem.one g_2 (.cells ([.int .i64 x1.Sess, .int .i64 x1.Seq, .int .i64 x1.Cmd.Kind, .int .i64 x1.Cmd.Who, p1_2, p1_3, p1_4] : List Value).toArray 45 (0, 0)), M_45, M_38] Z := hS'
            clear hS'
            refine wpList_nil ?_
            refine x_then_n ⟨(hS.sub (.cons (Mem.le.refl _) (.cons (Mem.no_le _) (.cons (Mem.le.refl _) (.cons (Mem.le.refl _) (.cons (Mem.le.refl _) (Sub.nil _))))))), ?_⟩
            refine h_event 10 [true, true, true, true, true, true, true, true, true, true, true, false, false, false].toArray rfl (by kernel_rfl) rfl ?_
            refine s_append (J := (A.un N_4)) (I' := (A.un N_4)) (p := 5) 1256584717458 hm rfl rfl rfl Try.underlying61 ti84 rfl rfl rfl rfl hS rfl ho_46 (ho_39.src (hS.own 6)) (Mem.un_left (Mem.le.refl _)) (Mem.un_left (Mem.le.refl _)) et_29 ?_
            intro w_49 v_50 M_51 hS' ho_52
            clear hm a; intro a hm
            replace hS : Sep w0 w_49 [N_4, Mem.one g0 (.cells ([p0_0, p0_1] : List Value).toArray 63 (0, 0)), M0_0, M0_1, Mem.one g_2 (.cells ([.int .i64 x1.Sess, .int .i64 x1.Seq, .int .i64 x1.Cmd.Kind, .int .i64 x1.Cmd.Who, p1_2, p1_3, p1_4] : List Value).toArray 45 (0, 0)), M_51, M_38] Z := hS'
            clear hS'
            refine wpList_nil ?_
            refine x_then_n ⟨(hS.sub (.cons (Mem.le.refl _) (.cons (Mem.no_le _) (.cons (Mem.le.refl _) (.cons (Mem.le.refl _) (.cons (Mem.le.refl _) (Sub.nil _))))))), ?_⟩
            refine h_take 11 [true, true, true, true, true, true, true, true, true, true, true, true, false, false].toArray rfl (by kernel_rfl) (by kernel_rfl) (by kernel_rfl) (fun _ _ _ _ h => h) rfl rfl rfl rfl hm (hS.sub (.cons (Mem.le.refl _) (.cons (Mem.no_le _) (.cons (Mem.le.refl _) (.cons (Mem.le.refl _) (.cons (Mem.le.refl _) (Sub.nil _))))))) (v := .pointer (some ⟨g0, 0, none⟩)) (fun w hS => r_nilCheck hm rfl) ?_
            clear hm a; intro a hm
            refine h_take 12 [true, true, true, true, true, true, true, true, true, true, true, true, true, false].toArray rfl (by kernel_rfl) (by kernel_rfl) (by kernel_rfl) (fun _ _ _ _ h => h) rfl rfl rfl rfl hm (hS.sub (.cons (Mem.le.refl _) (.cons (Mem.no_le _) (.cons (Mem.le.refl _) (.cons (Mem.le.refl _) (.cons (Mem.le.refl _) (Sub.nil _))))))) (v := .pointer (some ⟨g0, 0, none⟩)) (fun w hS => r_fieldAddr hm Try.underlying63 rfl ti61 rfl rfl rfl) ?_
            clear hm a; intro a hm
            refine h_event 13 [true, true, true, true, true, true, true, true, true, true, true, true, true, true].toArray rfl (by kernel_rfl) rfl ?_
            obtain ⟨w_54, hs', hS'⟩ := hS.store (P := Try.prog) (p := 1) (o := 0) (t := 61) (v := v_50) (vs := [v_50]) rfl ti61 ho_52.cellsA rfl rfl (by intro u hu; simp only [List.mem_cons, List.not_mem_nil, or_false] at hu; rcases hu with rfl <;> first | rfl | exact ho_52.one)
            refine s_store hm rfl rfl hs' ?_
            replace hS : Sep w0 w_54 [N_4, Mem.one g0 (.cells ([v_50, p0_1] : List Value).toArray 63 (0, 0)), M0_0, M0_1, Mem.one g_2 (.cells ([.int .i64 x1.Sess, .int .i64 x1.Seq, .int .i64 x1.Cmd.Kind, .int .i64 x1.Cmd.Who, p1_2, p1_3, p1_4] : List Value).toArray 45 (0, 0)), M_51, M_38] Z := hS'
            clear hs' hS'
            refine wpList_nil ?_
            refine x_then_n ⟨(hS.sub (.cons (Mem.le.refl _) (.cons (Mem.no_le _) (.cons (Mem.le.refl _) (.cons (Mem.le.refl _) (.cons (Mem.le.refl _) (Sub.nil _))))))), ?_⟩
            refine h_done (by kernel_rfl) ?_
            replace hm : Fr 60 a [(4, .bool false)] := hm.keep [4]
            refine x_then_n (hKJ_9 _ _ ?_)
            refine wp_seq ?_
            refine wp_region_lit ?_
            refine s_assign hm rfl rfl ?_
            clear hm a; intro a hm
            refine wpList_nil ?_
            replace hm : Fr 60 a [(4, .bool true)] := hm.keep [4]
            refine x_then_n ?_
            refine wp_ret ?_
            obtain rfl := Option.some.inj H
            exact f_ret hm (rs := [.tmp 4]) rfl (.tmp rfl .nil) ⟨_, rfl, v_50, p0_1, N_4, M_51, M0_1, rfl, (Sep.sel hS [0, 1, 5, 3] (by decide)), (ho_52.mono (Mem.un_left (Mem.le.refl _))), (hp0_1.mono (Mem.le_un _ _))⟩
        · refine ⟨_, [true, true, true, true, true, false, false, true, true, true, false, false, false, false].toArray, rfl, rfl, ?_⟩
          have hq_59 : Reps k_hocketref15_call (A.un N_4) ([(⟨x1, false⟩ : hocketref15_call)] : List hocketref15_call) _ := ((Reps.one (d := k_hocketref15_call) (x := (⟨x1, false⟩ : hocketref15_call)) (k_hocketref15_call.mk' (hp1_2.mono (Mem.le_un _ _)) (hp1_3.mono (Mem.le_un _ _)) (hp1_4.mono (Mem.le_un _ _)))).append (Reps.nil k_hocketref15_call _))
          refine s_buildSlice hm rfl Try.underlying61 ti84 rfl rfl rfl (.cons rfl .nil) rfl rfl rfl hS hq_59 rfl ?_
          intro w_55 v_56 M_57 hS' ho_58
          clear hm a; intro a hm
          replace hS : Sep w0 w_55 [N_4, Mem.one g0 (.cells ([p0_0, p0_1] : List Value).toArray 63 (0, 0)), M0_0, M0_1, Mem.one g_2 (.cells ([.int .i64 x1.Sess, .int .i64 x1.Seq, .int .i64 x1.Cmd.Kind, .int .i64 x1.Cmd.Who, p1_2, p1_3, p1_4] : List Value).toArray 45 (0, 0)), M_13, M_57] Z := hS'
          clear hS' hq_59
          refine wpList_nil ?_
          refine x_then_n ⟨(hS.sub (.cons (Mem.le.refl _) (.cons (Mem.no_le _) (.cons (Mem.le.refl _) (.cons (Mem.le.refl _) (.cons (Mem.le.refl _) (Sub.nil _))))))), ?_⟩
          refine h_event 5 [true, true, true, true, true, true, false, true, true, true, false, false, false, false].toArray rfl (by kernel_rfl) rfl ?_
          refine s_load hm rfl rfl (hS.load_one (p := 1) rfl Try.underlying61 rfl rfl) ?_
          clear hm a; intro a hm
          refine wpList_nil ?_
          refine x_then_n ⟨(hS.sub (.cons (Mem.le.refl _) (.cons (Mem.no_le _) (.cons (Mem.le.refl _) (.cons (Mem.le.refl _) (.cons (Mem.le.refl _) (Sub.nil _))))))), ?_⟩
          refine h_event 6 [true, true, true, true, true, true, true, true, true, true, false, false, false, false].toArray rfl (by kernel_rfl) rfl ?_
          refine s_append (J := A) (I' := (A.un N_4)) (p := 5) 1256584717458 hm rfl rfl rfl Try.underlying61 ti84 rfl rfl rfl rfl hS rfl ho_14 (hp0_0.src (hS.own 2)) ((Mem.le.refl _).trans (hS.sndA hA)) (Mem.le_un _ _) et_17 ?_
          intro w_62 v_63 M_64 hS' ho_65
          clear hm a; intro a hm
          replace hS : Sep w0 w_62 [N_4, Mem.one g0 (.cells ([p0_0, p0_1] : List Value).toArray 63 (0, 0)), M0_0, M0_1, Mem.one g_2 (.cells ([.int .i64 x1.Sess, .int .i64 x1.Seq, .int .i64 x1.Cmd.Kind, .int .i64 x1.Cmd.Who, p1_2, p1_3, p1_4] : List Value).toArray 45 (0, 0)), M_64, M_57] Z := hS'
          clear hS'
          refine wpList_nil ?_
          refine x_then_n ⟨(hS.sub (.cons (Mem.le.refl _) (.cons (Mem.no_le _) (.cons (Mem.le.refl _) (.cons (Mem.le.refl _) (.cons (Mem.le.refl _) (Sub.nil _))))))), ?_⟩
          refine h_event 10 [true, true, true, true, true, true, true, true, true, true, true, false, false, false].toArray rfl (by kernel_rfl) rfl ?_
          refine s_append (J := (A.un N_4)) (I' := (A.un N_4)) (p := 5) 1256584717458 hm rfl rfl rfl Try.underlying61 ti84 rfl rfl rfl rfl hS rfl ho_65 (ho_58.src (hS.own 6)) (Mem.un_left (Mem.le.refl _)) (Mem.un_left (Mem.le.refl _)) et_29 ?_
          intro w_68 v_69 M_70 hS' ho_71
          clear hm a; intro a hm
          replace hS : Sep w0 w_68 [N_4, Mem.one g0 (.cells ([p0_0, p0_1] : List Value).toArray 63 (0, 0)), M0_0, M0_1, Mem.one g_2 (.cells ([.int .i64 x1.Sess, .int .i64 x1.Seq, .int .i64 x1.Cmd.Kind, .int .i64 x1.Cmd.Who, p1_2, p1_3, p1_4] : List Value).toArray 45 (0, 0)), M_70, M_57] Z := hS'
          clear hS'
          refine wpList_nil ?_
          refine x_then_n ⟨(hS.sub (.cons (Mem.le.refl _) (.cons (Mem.no_le _) (.cons (Mem.le.refl _) (.cons (Mem.le.refl _) (.cons (Mem.le.refl _) (Sub.nil _))))))), ?_⟩
          refine h_take 11 [true, true, true, true, true, true, true, true, true, true, true, true, false, false].toArray rfl (by kernel_rfl) (by kernel_rfl) (by kernel_rfl) (fun _ _ _ _ h => h) rfl rfl rfl rfl hm (hS.sub (.cons (Mem.le.refl _) (.cons (Mem.no_le _) (.cons (Mem.le.refl _) (.cons (Mem.le.refl _) (.cons (Mem.le.refl _) (Sub.nil _))))))) (v := .pointer (some ⟨g0, 0, none⟩)) (fun w hS => r_nilCheck hm rfl) ?_
          clear hm a; intro a hm
          refine h_take 12 [true, true, true, true, true, true, true, true, true, true, true, true, true, false].toArray rfl (by kernel_rfl) (by kernel_rfl) (by kernel_rfl) (fun _ _ _ _ h => h) rfl rfl rfl rfl hm (hS.sub (.cons (Mem.le.refl _) (.cons (Mem.no_le _) (.cons (Mem.le.refl _) (.cons (Mem.le.refl _) (.cons (Mem.le.refl _) (Sub.nil _))))))) (v := .pointer (some ⟨g0, 0, none⟩)) (fun w hS => r_fieldAddr hm Try.underlying63 rfl ti61 rfl rfl rfl) ?_
          clear hm a; intro a hm
          refine h_event 13 [true, true, true, true, true, true, true, true, true, true, true, true, true, true].toArray rfl (by kernel_rfl) rfl ?_
          obtain ⟨w_73, hs', hS'⟩ := hS.store (P := Try.prog) (p := 1) (o := 0) (t := 61) (v := v_69) (vs := [v_69]) rfl ti61 ho_71.cellsA rfl rfl (by intro u hu; simp only [List.mem_cons, List.not_mem_nil, or_false] at hu; rcases hu with rfl <;> first | rfl | exact ho_71.one)
          refine s_store hm rfl rfl hs' ?_
          replace hS : Sep w0 w_73 [N_4, Mem.one g0 (.cells ([v_69, p0_1] : List Value).toArray 63 (0, 0)), M0_0, M0_1, Mem.one g_2 (.cells ([.int .i64 x1.Sess, .int .i64 x1.Seq, .int .i64 x1.Cmd.Kind, .int .i64 x1.Cmd.Who, p1_2, p1_3, p1_4] : List Value).toArray 45 (0, 0)), M_70, M_57] Z := hS'
          clear hs' hS'
          refine wpList_nil ?_
          refine x_then_n ⟨(hS.sub (.cons (Mem.le.refl _) (.cons (Mem.no_le _) (.cons (Mem.le.refl _) (.cons (Mem.le.refl _) (.cons (Mem.le.refl _) (Sub.nil _))))))), ?_⟩
          refine h_done (by kernel_rfl) ?_
          replace hm : Fr 60 a [(4, .bool false)] := hm.keep [4]
          refine x_then_n (hKJ_9 _ _ ?_)
          refine wp_seq ?_
          refine wp_region_lit ?_
          refine s_assign hm rfl rfl ?_
          clear hm a; intro a hm
          refine wpList_nil ?_
          replace hm : Fr 60 a [(4, .bool true)] := hm.keep [4]
          refine x_then_n ?_
          refine wp_ret ?_
          obtain rfl := Option.some.inj H
          exact f_ret hm (rs := [.tmp 4]) rfl (.tmp rfl .nil) ⟨_, rfl, v_69, p0_1, N_4, M_70, M0_1, rfl, (Sep.sel hS [0, 1, 5, 3] (by decide)), (ho_71.mono (Mem.un_left (Mem.le.refl _))), (hp0_1.mono (Mem.le_un _ _))⟩
      · refine ⟨_, [true, false, true, true, true, true, false, true, true, false, false, false, false, false].toArray, rfl, rfl, ?_⟩
        refine s_load hm rfl rfl (hS.load_one (p := 1) rfl Try.underlying61 rfl rfl) ?_
        clear hm a; intro a hm
        refine wpList_nil ?_
        refine x_then_n ⟨(hS.sub (.cons (Mem.le.refl _) (.cons (Mem.no_le _) (.cons (Mem.le.refl _) (.cons (Mem.le.refl _) (.cons (Mem.le.refl _) (Sub.nil _))))))), ?_⟩
        refine h_events [1, 9] (by kernel_rfl) (by simp) ?_
        intro i hi; simp only [List.mem_cons, List.not_mem_nil, or_false] at hi; rcases hi with rfl | rfl
        · refine ⟨_, [true, true, true, true, true, true, false, true, true, false, false, false, false, false].toArray, rfl, rfl, ?_⟩
          have hq_78 : Reps k_hocketref15_call N_4 ([] : List hocketref15_call) _ := (Reps.nil k_hocketref15_call _)
          refine s_buildSlice hm rfl Try.underlying61 ti84 rfl rfl rfl .nil rfl rfl rfl hS hq_78 rfl ?_
          intro w_74 v_75 M_76 hS' ho_77
          clear hm a; intro a hm
          replace hS : Sep w0 w_74 [N_4, Mem.one g0 (.cells ([p0_0, p0_1] : List Value).toArray 63 (0, 0)), M0_0, M0_1, Mem.one g_2 (.cells ([.int .i64 x1.Sess, .int .i64 x1.Seq, .int .i64 x1.Cmd.Kind, .int .i64 x1.Cmd.Who, p1_2, p1_3, p1_4] : List Value).toArray 45 (0, 0)), M_76] Z := hS'
          clear hS' hq_78
          refine wpList_nil ?_
          refine x_then_n ⟨(hS.sub (.cons (Mem.le.refl _) (.cons (Mem.no_le _) (.cons (Mem.le.refl _) (.cons (Mem.le.refl _) (.cons (Mem.le.refl _) (Sub.nil _))))))), ?_⟩
          refine h_events [6, 9] (by kernel_rfl) (by simp) ?_
          intro i hi; simp only [List.mem_cons, List.not_mem_nil, or_false] at hi; rcases hi with rfl | rfl
          · refine ⟨_, [true, true, true, true, true, true, true, true, true, false, false, false, false, false].toArray, rfl, rfl, ?_⟩
            refine s_append (J := A) (I' := (A.un N_4)) (p := 5) 1256584717458 hm rfl rfl rfl Try.underlying61 ti84 rfl rfl rfl rfl hS rfl ho_77 (hp0_0.src (hS.own 2)) ((Mem.le.refl _).trans (hS.sndA hA)) (Mem.le_un _ _) et_17 ?_
            intro w_81 v_82 M_83 hS' ho_84
            clear hm a; intro a hm
            replace hS : Sep w0 w_81 [N_4, Mem.one g0 (.cells ([p0_0, p0_1] : List Value).toArray 63 (0, 0)), M0_0, M0_1, Mem.one g_2 (.cells ([.int .i64 x1.Sess, .int .i64 x1.Seq, .int .i64 x1.Cmd.Kind, .int .i64 x1.Cmd.Who, p1_2, p1_3, p1_4] : List Value).toArray 45 (0, 0)), M_83] Z := hS'
            clear hS'
            refine wpList_nil ?_
            refine x_then_n ⟨(hS.sub (.cons (Mem.le.refl _) (.cons (Mem.no_le _) (.cons (Mem.le.refl _) (.cons (Mem.le.refl _) (.cons (Mem.le.refl _) (Sub.nil _))))))), ?_⟩
            refine h_event 9 [true, true, true, true, true, true, true, true, true, true, false, false, false, false].toArray rfl (by kernel_rfl) rfl ?_
            have hq_90 : Reps k_hocketref15_call (A.un N_4) ([(⟨x1, false⟩ : hocketref15_call)] : List hocketref15_call) _ := ((Reps.one (d := k_hocketref15_call) (x := (⟨x1, false⟩ : hocketref15_call)) (k_hocketref15_call.mk' (hp1_2.mono (Mem.le_un _ _)) (hp1_3.mono (Mem.le_un _ _)) (hp1_4.mono (Mem.le_un _ _)))).append (Reps.nil k_hocketref15_call _))
            refine s_buildSlice hm rfl Try.underlying61 ti84 rfl rfl rfl (.cons rfl .nil) rfl rfl rfl hS hq_90 rfl ?_
            intro w_86 v_87 M_88 hS' ho_89
            clear hm a; intro a hm
            replace hS : Sep w0 w_86 [N_4, Mem.one g0 (.cells ([p0_0, p0_1] : List Value).toArray 63 (0, 0)), M0_0, M0_1, Mem.one g_2 (.cells ([.int .i64 x1.Sess, .int .i64 x1.Seq, .int .i64 x1.Cmd.Kind, .int .i64 x1.Cmd.Who, p1_2, p1_3, p1_4] : List Value).toArray 45 (0, 0)), M_83, M_88] Z := hS'
            clear hS' hq_90
            refine wpList_nil ?_
            refine x_then_n ⟨(hS.sub (.cons (Mem.le.refl _) (.cons (Mem.no_le _) (.cons (Mem.le.refl _) (.cons (Mem.le.refl _) (.cons (Mem.le.refl _) (Sub.nil _))))))), ?_⟩
            refine h_event 10 [true, true, true, true, true, true, true, true, true, true, true, false, false, false].toArray rfl (by kernel_rfl) rfl ?_
            refine s_append (J := (A.un N_4)) (I' := (A.un N_4)) (p := 5) 1256584717458 hm rfl rfl rfl Try.underlying61 ti84 rfl rfl rfl rfl hS rfl ho_84 (ho_89.src (hS.own 6)) (Mem.un_left (Mem.le.refl _)) (Mem.un_left (Mem.le.refl _)) et_29 ?_
            intro w_93 v_94 M_95 hS' ho_96
            clear hm a; intro a hm
            replace hS : Sep w0 w_93 [N_4, Mem.one g0 (.cells ([p0_0, p0_1] : List Value).toArray 63 (0, 0)), M0_0, M0_1, Mem.one g_2 (.cells ([.int .i64 x1.Sess, .int .i64 x1.Seq, .int .i64 x1.Cmd.Kind, .int .i64 x1.Cmd.Who, p1_2, p1_3, p1_4] : List Value).toArray 45 (0, 0)), M_95, M_88] Z := hS'
            clear hS'
            refine wpList_nil ?_
            refine x_then_n ⟨(hS.sub (.cons (Mem.le.refl _) (.cons (Mem.no_le _) (.cons (Mem.le.refl _) (.cons (Mem.le.refl _) (.cons (Mem.le.refl _) (Sub.nil _))))))), ?_⟩
            refine h_take 11 [true, true, true, true, true, true, true, true, true, true, true, true, false, false].toArray rfl (by kernel_rfl) (by kernel_rfl) (by kernel_rfl) (fun _ _ _ _ h => h) rfl rfl rfl rfl hm (hS.sub (.cons (Mem.le.refl _) (.cons (Mem.no_le _) (.cons (Mem.le.refl _) (.cons (Mem.le.refl _) (.cons (Mem.le.refl _) (Sub.nil _))))))) (v := .pointer (some ⟨g0, 0, none⟩)) (fun w hS => r_nilCheck hm rfl) ?_
            clear hm a; intro a hm
            refine h_take 12 [true, true, true, true, true, true, true, true, true, true, true, true, true, false].toArray rfl (by kernel_rfl) (by kernel_rfl) (by kernel_rfl) (fun _ _ _ _ h => h) rfl rfl rfl rfl hm (hS.sub (.cons (Mem.le.refl _) (.cons (Mem.no_le _) (.cons (Mem.le.refl _) (.cons (Mem.le.refl _) (.cons (Mem.le.refl _) (Sub.nil _))))))) (v := .pointer (some ⟨g0, 0, none⟩)) (fun w hS => r_fieldAddr hm Try.underlying63 rfl ti61 rfl rfl rfl) ?_
            clear hm a; intro a hm
            refine h_event 13 [true, true, true, true, true, true, true, true, true, true, true, true, true, true].toArray rfl (by kernel_rfl) rfl ?_
            obtain ⟨w_98, hs', hS'⟩ := hS.store (P := Try.prog) (p := 1) (o := 0) (t := 61) (v := v_94) (vs := [v_94]) rfl ti61 ho_96.cellsA rfl rfl (by intro u hu; simp only [List.mem_cons, List.not_mem_nil, or_false] at hu; rcases hu with rfl <;> first | rfl | exact ho_96.one)
            refine s_store hm rfl rfl hs' ?_
            replace hS : Sep w0 w_98 [N_4, Mem.one g0 (.cells ([v_94, p0_1] : List Value).toArray 63 (0, 0)), M0_0, M0_1, Mem.one g_2 (.cells ([.int .i64 x1.Sess, .int .i64 x1.Seq, .int .i64 x1.Cmd.Kind, .int .i64 x1.Cmd.Who, p1_2, p1_3, p1_4] : List Value).toArray 45 (0, 0)), M_95, M_88] Z := hS'
            clear hs' hS'
            refine wpList_nil ?_
            refine x_then_n ⟨(hS.sub (.cons (Mem.le.refl _) (.cons (Mem.no_le _) (.cons (Mem.le.refl _) (.cons (Mem.le.refl _) (.cons (Mem.le.refl _) (Sub.nil _))))))), ?_⟩
            refine h_done (by kernel_rfl) ?_
            replace hm : Fr 60 a [(4, .bool false)] := hm.keep [4]
            refine x_then_n (hKJ_9 _ _ ?_)
            refine wp_seq ?_
            refine wp_region_lit ?_
            refine s_assign hm rfl rfl ?_
            clear hm a; intro a hm
            refine wpList_nil ?_
            replace hm : Fr 60 a [(4, .bool true)] := hm.keep [4]
            refine x_then_n ?_
            refine wp_ret ?_
            obtain rfl := Option.some.inj H
            exact f_ret hm (rs := [.tmp 4]) rfl (.tmp rfl .nil) ⟨_, rfl, v_94, p0_1, N_4, M_95, M0_1, rfl, (Sep.sel hS [0, 1, 5, 3] (by decide)), (ho_96.mono (Mem.un_left (Mem.le.refl _))), (hp0_1.mono (Mem.le_un _ _))⟩
          · refine ⟨_, [true, true, true, true, true, true, false, true, true, true, false, false, false, false].toArray, rfl, rfl, ?_⟩
            have hq_103 : Reps k_hocketref15_call (A.un N_4) ([(⟨x1, false⟩ : hocketref15_call)] : List hocketref15_call) _ := ((Reps.one (d := k_hocketref15_call) (x := (⟨x1, false⟩ : hocketref15_call)) (k_hocketref15_call.mk' (hp1_2.mono (Mem.le_un _ _)) (hp1_3.mono (Mem.le_un _ _)) (hp1_4.mono (Mem.le_un _ _)))).append (Reps.nil k_hocketref15_call _))
            refine s_buildSlice hm rfl Try.underlying61 ti84 rfl rfl rfl (.cons rfl .nil) rfl rfl rfl hS hq_103 rfl ?_
            intro w_99 v_100 M_101 hS' ho_102
            clear hm a; intro a hm
            replace hS : Sep w0 w_99 [N_4, Mem.one g0 (.cells ([p0_0, p0_1] : List Value).toArray 63 (0, 0)), M0_0, M0_1, Mem.one g_2 (.cells ([.int .i64 x1.Sess, .int .i64 x1.Seq, .int .i64 x1.Cmd.Kind, .int .i64 x1.Cmd.Who, p1_2, p1_3, p1_4] : List Value).toArray 45 (0, 0)), M_76, M_101] Z := hS'
            clear hS' hq_103
            refine wpList_nil ?_
            refine x_then_n ⟨(hS.sub (.cons (Mem.le.refl _) (.cons (Mem.no_le _) (.cons (Mem.le.refl _) (.cons (Mem.le.refl _) (.cons (Mem.le.refl _) (Sub.nil _))))))), ?_⟩
            refine h_event 6 [true, true, true, true, true, true, true, true, true, true, false, false, false, false].toArray rfl (by kernel_rfl) rfl ?_
            refine s_append (J := A) (I' := (A.un N_4)) (p := 5) 1256584717458 hm rfl rfl rfl Try.underlying61 ti84 rfl rfl rfl rfl hS rfl ho_77 (hp0_0.src (hS.own 2)) ((Mem.le.refl _).trans (hS.sndA hA)) (Mem.le_un _ _) et_17 ?_
            intro w_106 v_107 M_108 hS' ho_109
            clear hm a; intro a hm
            replace hS : Sep w0 w_106 [N_4, Mem.one g0 (.cells ([p0_0, p0_1] : List Value).toArray 63 (0, 0)), M0_0, M0_1, Mem.one g_2 (.cells ([.int .i64 x1.Sess, .int .i64 x1.Seq, .int .i64 x1.Cmd.Kind, .int .i64 x1.Cmd.Who, p1_2, p1_3, p1_4] : List Value).toArray 45 (0, 0)), M_108, M_101] Z := hS'
            clear hS'
            refine wpList_nil ?_
            refine x_then_n ⟨(hS.sub (.cons (Mem.le.refl _) (.cons (Mem.no_le _) (.cons (Mem.le.refl _) (.cons (Mem.le.refl _) (.cons (Mem.le.refl _) (Sub.nil _))))))), ?_⟩
            refine h_event 10 [true, true, true, true, true, true, true, true, true, true, true, false, false, false].toArray rfl (by kernel_rfl) rfl ?_
            refine s_append (J := (A.un N_4)) (I' := (A.un N_4)) (p := 5) 1256584717458 hm rfl rfl rfl Try.underlying61 ti84 rfl rfl rfl rfl hS rfl ho_109 (ho_102.src (hS.own 6)) (Mem.un_left (Mem.le.refl _)) (Mem.un_left (Mem.le.refl _)) et_29 ?_
            intro w_112 v_113 M_114 hS' ho_115
            clear hm a; intro a hm
            replace hS : Sep w0 w_112 [N_4, Mem.one g0 (.cells ([p0_0, p0_1] : List Value).toArray 63 (0, 0)), M0_0, M0_1, Mem.one g_2 (.cells ([.int .i64 x1.Sess, .int .i64 x1.Seq, .int .i64 x1.Cmd.Kind, .int .i64 x1.Cmd.Who, p1_2, p1_3, p1_4] : List Value).toArray 45 (0, 0)), M_114, M_101] Z := hS'
            clear hS'
            refine wpList_nil ?_
            refine x_then_n ⟨(hS.sub (.cons (Mem.le.refl _) (.cons (Mem.no_le _) (.cons (Mem.le.refl _) (.cons (Mem.le.refl _) (.cons (Mem.le.refl _) (Sub.nil _))))))), ?_⟩
            refine h_take 11 [true, true, true, true, true, true, true, true, true, true, true, true, false, false].toArray rfl (by kernel_rfl) (by kernel_rfl) (by kernel_rfl) (fun _ _ _ _ h => h) rfl rfl rfl rfl hm (hS.sub (.cons (Mem.le.refl _) (.cons (Mem.no_le _) (.cons (Mem.le.refl _) (.cons (Mem.le.refl _) (.cons (Mem.le.refl _) (Sub.nil _))))))) (v := .pointer (some ⟨g0, 0, none⟩)) (fun w hS => r_nilCheck hm rfl) ?_
            clear hm a; intro a hm
            refine h_take 12 [true, true, true, true, true, true, true, true, true, true, true, true, true, false].toArray rfl (by kernel_rfl) (by kernel_rfl) (by kernel_rfl) (fun _ _ _ _ h => h) rfl rfl rfl rfl hm (hS.sub (.cons (Mem.le.refl _) (.cons (Mem.no_le _) (.cons (Mem.le.refl _) (.cons (Mem.le.refl _) (.cons (Mem.le.refl _) (Sub.nil _))))))) (v := .pointer (some ⟨g0, 0, none⟩)) (fun w hS => r_fieldAddr hm Try.underlying63 rfl ti61 rfl rfl rfl) ?_
            clear hm a; intro a hm
            refine h_event 13 [true, true, true, true, true, true, true, true, true, true, true, true, true, true].toArray rfl (by kernel_rfl) rfl ?_
            obtain ⟨w_117, hs', hS'⟩ := hS.store (P := Try.prog) (p := 1) (o := 0) (t := 61) (v := v_113) (vs := [v_113]) rfl ti61 ho_115.cellsA rfl rfl (by intro u hu; simp only [List.mem_cons, List.not_mem_nil, or_false] at hu; rcases hu with rfl <;> first | rfl | exact ho_115.one)
            refine s_store hm rfl rfl hs' ?_
            replace hS : Sep w0 w_117 [N_4, Mem.one g0 (.cells ([v_113, p0_1] : List Value).toArray 63 (0, 0)), M0_0, M0_1, Mem.one g_2 (.cells ([.int .i64 x1.Sess, .int .i64 x1.Seq, .int .i64 x1.Cmd.Kind, .int .i64 x1.Cmd.Who, p1_2, p1_3, p1_4] : List Value).toArray 45 (0, 0)), M_114, M_101] Z := hS'
            clear hs' hS'
            refine wpList_nil ?_
            refine x_then_n ⟨(hS.sub (.cons (Mem.le.refl _) (.cons (Mem.no_le _) (.cons (Mem.le.refl _) (.cons (Mem.le.refl _) (.cons (Mem.le.refl _) (Sub.nil _))))))), ?_⟩
            refine h_done (by kernel_rfl) ?_
            replace hm : Fr 60 a [(4, .bool false)] := hm.keep [4]
            refine x_then_n (hKJ_9 _ _ ?_)
            refine wp_seq ?_
            refine wp_region_lit ?_
            refine s_assign hm rfl rfl ?_
            clear hm a; intro a hm
            refine wpList_nil ?_
            replace hm : Fr 60 a [(4, .bool true)] := hm.keep [4]
            refine x_then_n ?_
            refine wp_ret ?_
            obtain rfl := Option.some.inj H
            exact f_ret hm (rs := [.tmp 4]) rfl (.tmp rfl .nil) ⟨_, rfl, v_113, p0_1, N_4, M_114, M0_1, rfl, (Sep.sel hS [0, 1, 5, 3] (by decide)), (ho_115.mono (Mem.un_left (Mem.le.refl _))), (hp0_1.mono (Mem.le_un _ _))⟩
        · refine ⟨_, [true, false, true, true, true, true, false, true, true, true, false, false, false, false].toArray, rfl, rfl, ?_⟩
          have hq_122 : Reps k_hocketref15_call (A.un N_4) ([(⟨x1, false⟩ : hocketref15_call)] : List hocketref15_call) _ := ((Reps.one (d := k_hocketref15_call) (x := (⟨x1, false⟩ : hocketref15_call)) (k_hocketref15_call.mk' (hp1_2.mono (Mem.le_un _ _)) (hp1_3.mono (Mem.le_un _ _)) (hp1_4.mono (Mem.le_un _ _)))).append (Reps.nil k_hocketref15_call _))
          refine s_buildSlice hm rfl Try.underlying61 ti84 rfl rfl rfl (.cons rfl .nil) rfl rfl rfl hS hq_122 rfl ?_
          intro w_118 v_119 M_120 hS' ho_121
          clear hm a; intro a hm
          replace hS : Sep w0 w_118 [N_4, Mem.one g0 (.cells ([p0_0, p0_1] : List Value).toArray 63 (0, 0)), M0_0, M0_1, Mem.one g_2 (.cells ([.int .i64 x1.Sess, .int .i64 x1.Seq, .int .i64 x1.Cmd.Kind, .int .i64 x1.Cmd.Who, p1_2, p1_3, p1_4] : List Value).toArray 45 (0, 0)), M_120] Z := hS'
          clear hS' hq_122
          refine wpList_nil ?_
          refine x_then_n ⟨(hS.sub (.cons (Mem.le.refl _) (.cons (Mem.no_le _) (.cons (Mem.le.refl _) (.cons (Mem.le.refl _) (.cons (Mem.le.refl _) (Sub.nil _))))))), ?_⟩
          refine h_event 1 [true, true, true, true, true, true, false, true, true, true, false, false, false, false].toArray rfl (by kernel_rfl) rfl ?_
          have hq_128 : Reps k_hocketref15_call N_4 ([] : List hocketref15_call) _ := (Reps.nil k_hocketref15_call _)
          refine s_buildSlice hm rfl Try.underlying61 ti84 rfl rfl rfl .nil rfl rfl rfl hS hq_128 rfl ?_
          intro w_124 v_125 M_126 hS' ho_127
          clear hm a; intro a hm
          replace hS : Sep w0 w_124 [N_4, Mem.one g0 (.cells ([p0_0, p0_1] : List Value).toArray 63 (0, 0)), M0_0, M0_1, Mem.one g_2 (.cells ([.int .i64 x1.Sess, .int .i64 x1.Seq, .int .i64 x1.Cmd.Kind, .int .i64 x1.Cmd.Who, p1_2, p1_3, p1_4] : List Value).toArray 45 (0, 0)), M_120, M_126] Z := hS'
          clear hS' hq_128
          refine wpList_nil ?_
          refine x_then_n ⟨(hS.sub (.cons (Mem.le.refl _) (.cons (Mem.no_le _) (.cons (Mem.le.refl _) (.cons (Mem.le.refl _) (.cons (Mem.le.refl _) (Sub.nil _))))))), ?_⟩
          refine h_event 6 [true, true, true, true, true, true, true, true, true, true, false, false, false, false].toArray rfl (by kernel_rfl) rfl ?_
          refine s_append (J := A) (I' := (A.un N_4)) (p := 6) 1256584717458 hm rfl rfl rfl Try.underlying61 ti84 rfl rfl rfl rfl hS rfl ho_127 (hp0_0.src (hS.own 2)) ((Mem.le.refl _).trans (hS.sndA hA)) (Mem.le_un _ _) et_17 ?_
          intro w_131 v_132 M_133 hS' ho_134
          clear hm a; intro a hm
          replace hS : Sep w0 w_131 [N_4, Mem.one g0 (.cells ([p0_0, p0_1] : List Value).toArray 63 (0, 0)), M0_0, M0_1, Mem.one g_2 (.cells ([.int .i64 x1.Sess, .int .i64 x1.Seq, .int .i64 x1.Cmd.Kind, .int .i64 x1.Cmd.Who, p1_2, p1_3, p1_4] : List Value).toArray 45 (0, 0)), M_120, M_133] Z := hS'
          clear hS'
          refine wpList_nil ?_
          refine x_then_n ⟨(hS.sub (.cons (Mem.le.refl _) (.cons (Mem.no_le _) (.cons (Mem.le.refl _) (.cons (Mem.le.refl _) (.cons (Mem.le.refl _) (Sub.nil _))))))), ?_⟩
          refine h_event 10 [true, true, true, true, true, true, true, true, true, true, true, false, false, false].toArray rfl (by kernel_rfl) rfl ?_
          refine s_append (J := (A.un N_4)) (I' := (A.un N_4)) (p := 6) 1256584717458 hm rfl rfl rfl Try.underlying61 ti84 rfl rfl rfl rfl hS rfl ho_134 (ho_121.src (hS.own 5)) (Mem.un_left (Mem.le.refl _)) (Mem.un_left (Mem.le.refl _)) et_29 ?_
          intro w_137 v_138 M_139 hS' ho_140
          clear hm a; intro a hm
          replace hS : Sep w0 w_137 [N_4, Mem.one g0 (.cells ([p0_0, p0_1] : List Value).toArray 63 (0, 0)), M0_0, M0_1, Mem.one g_2 (.cells ([.int .i64 x1.Sess, .int .i64 x1.Seq, .int .i64 x1.Cmd.Kind, .int .i64 x1.Cmd.Who, p1_2, p1_3, p1_4] : List Value).toArray 45 (0, 0)), M_120, M_139] Z := hS'
          clear hS'
          refine wpList_nil ?_
          refine x_then_n ⟨(hS.sub (.cons (Mem.le.refl _) (.cons (Mem.no_le _) (.cons (Mem.le.refl _) (.cons (Mem.le.refl _) (.cons (Mem.le.refl _) (Sub.nil _))))))), ?_⟩
          refine h_take 11 [true, true, true, true, true, true, true, true, true, true, true, true, false, false].toArray rfl (by kernel_rfl) (by kernel_rfl) (by kernel_rfl) (fun _ _ _ _ h => h) rfl rfl rfl rfl hm (hS.sub (.cons (Mem.le.refl _) (.cons (Mem.no_le _) (.cons (Mem.le.refl _) (.cons (Mem.le.refl _) (.cons (Mem.le.refl _) (Sub.nil _))))))) (v := .pointer (some ⟨g0, 0, none⟩)) (fun w hS => r_nilCheck hm rfl) ?_
          clear hm a; intro a hm
          refine h_take 12 [true, true, true, true, true, true, true, true, true, true, true, true, true, false].toArray rfl (by kernel_rfl) (by kernel_rfl) (by kernel_rfl) (fun _ _ _ _ h => h) rfl rfl rfl rfl hm (hS.sub (.cons (Mem.le.refl _) (.cons (Mem.no_le _) (.cons (Mem.le.refl _) (.cons (Mem.le.refl _) (.cons (Mem.le.refl _) (Sub.nil _))))))) (v := .pointer (some ⟨g0, 0, none⟩)) (fun w hS => r_fieldAddr hm Try.underlying63 rfl ti61 rfl rfl rfl) ?_
          clear hm a; intro a hm
          refine h_event 13 [true, true, true, true, true, true, true, true, true, true, true, true, true, true].toArray rfl (by kernel_rfl) rfl ?_
          obtain ⟨w_142, hs', hS'⟩ := hS.store (P := Try.prog) (p := 1) (o := 0) (t := 61) (v := v_138) (vs := [v_138]) rfl ti61 ho_140.cellsA rfl rfl (by intro u hu; simp only [List.mem_cons, List.not_mem_nil, or_false] at hu; rcases hu with rfl <;> first | rfl | exact ho_140.one)
          refine s_store hm rfl rfl hs' ?_
          replace hS : Sep w0 w_142 [N_4, Mem.one g0 (.cells ([v_138, p0_1] : List Value).toArray 63 (0, 0)), M0_0, M0_1, Mem.one g_2 (.cells ([.int .i64 x1.Sess, .int .i64 x1.Seq, .int .i64 x1.Cmd.Kind, .int .i64 x1.Cmd.Who, p1_2, p1_3, p1_4] : List Value).toArray 45 (0, 0)), M_120, M_139] Z := hS'
          clear hs' hS'
          refine wpList_nil ?_
          refine x_then_n ⟨(hS.sub (.cons (Mem.le.refl _) (.cons (Mem.no_le _) (.cons (Mem.le.refl _) (.cons (Mem.le.refl _) (.cons (Mem.le.refl _) (Sub.nil _))))))), ?_⟩
          refine h_done (by kernel_rfl) ?_
          replace hm : Fr 60 a [(4, .bool false)] := hm.keep [4]
          refine x_then_n (hKJ_9 _ _ ?_)
          refine wp_seq ?_
          refine wp_region_lit ?_
          refine s_assign hm rfl rfl ?_
          clear hm a; intro a hm
          refine wpList_nil ?_
          replace hm : Fr 60 a [(4, .bool true)] := hm.keep [4]
          refine x_then_n ?_
          refine wp_ret ?_
          obtain rfl := Option.some.inj H
          exact f_ret hm (rs := [.tmp 4]) rfl (.tmp rfl .nil) ⟨_, rfl, v_138, p0_1, N_4, M_139, M0_1, rfl, (Sep.sel hS [0, 1, 6, 3] (by decide)), (ho_140.mono (Mem.un_left (Mem.le.refl _))), (hp0_1.mono (Mem.le_un _ _))⟩
      · refine ⟨_, [true, false, true, true, true, false, false, true, true, true, false, false, false, false].toArray, rfl, rfl, ?_⟩
        have hq_147 : Reps k_hocketref15_call (A.un N_4) ([(⟨x1, false⟩ : hocketref15_call)] : List hocketref15_call) _ := ((Reps.one (d := k_hocketref15_call) (x := (⟨x1, false⟩ : hocketref15_call)) (k_hocketref15_call.mk' (hp1_2.mono (Mem.le_un _ _)) (hp1_3.mono (Mem.le_un _ _)) (hp1_4.mono (Mem.le_un _ _)))).append (Reps.nil k_hocketref15_call _))
        refine s_buildSlice hm rfl Try.underlying61 ti84 rfl rfl rfl (.cons rfl .nil) rfl rfl rfl hS hq_147 rfl ?_
        intro w_143 v_144 M_145 hS' ho_146
        clear hm a; intro a hm
        replace hS : Sep w0 w_143 [N_4, Mem.one g0 (.cells ([p0_0, p0_1] : List Value).toArray 63 (0, 0)), M0_0, M0_1, Mem.one g_2 (.cells ([.int .i64 x1.Sess, .int .i64 x1.Seq, .int .i64 x1.Cmd.Kind, .int .i64 x1.Cmd.Who, p1_2, p1_3, p1_4] : List Value).toArray 45 (0, 0)), M_145] Z := hS'
        clear hS' hq_147
        refine wpList_nil ?_
        refine x_then_n ⟨(hS.sub (.cons (Mem.le.refl _) (.cons (Mem.no_le _) (.cons (Mem.le.refl _) (.cons (Mem.le.refl _) (.cons (Mem.le.refl _) (Sub.nil _))))))), ?_⟩
        refine h_events [1, 5] (by kernel_rfl) (by simp) ?_
        intro i hi; simp only [List.mem_cons, List.not_mem_nil, or_false] at hi; rcases hi with rfl | rfl
        · refine ⟨_, [true, true, true, true, true, false, false, true, true, true, false, false, false, false].toArray, rfl, rfl, ?_⟩
          have hq_153 : Reps k_hocketref15_call N_4 ([] : List hocketref15_call) _ := (Reps.nil k_hocketref15_call _)
          refine s_buildSlice hm rfl Try.underlying61 ti84 rfl rfl rfl .nil rfl rfl rfl hS hq_153 rfl ?_
          intro w_149 v_150 M_151 hS' ho_152
          clear hm a; intro a hm
          replace hS : Sep w0 w_149 [N_4, Mem.one g0 (.cells ([p0_0, p0_1] : List Value).toArray 63 (0, 0)), M0_0, M0_1, Mem.one g_2 (.cells ([.int .i64 x1.Sess, .int .i64 x1.Seq, .int .i64 x1.Cmd.Kind, .int .i64 x1.Cmd.Who, p1_2, p1_3, p1_4] : List Value).toArray 45 (0, 0)), M_145, M_151] Z := hS'
          clear hS' hq_153
          refine wpList_nil ?_
          refine x_then_n ⟨(hS.sub (.cons (Mem.le.refl _) (.cons (Mem.no_le _) (.cons (Mem.le.refl _) (.cons (Mem.le.refl _) (.cons (Mem.le.refl _) (Sub.nil _))))))), ?_⟩
          refine h_event 5 [true, true, true, true, true, true, false, true, true, true, false, false, false, false].toArray rfl (by kernel_rfl) rfl ?_
          refine s_load hm rfl rfl (hS.load_one (p := 1) rfl Try.underlying61 rfl rfl) ?_
          clear hm a; intro a hm
          refine wpList_nil ?_
          refine x_then_n ⟨(hS.sub (.cons (Mem.le.refl _) (.cons (Mem.no_le _) (.cons (Mem.le.refl _) (.cons (Mem.le.refl _) (.cons (Mem.le.refl _) (Sub.nil _))))))), ?_⟩
          refine h_event 6 [true, true, true, true, true, true, true, true, true, true, false, false, false, false].toArray rfl (by kernel_rfl) rfl ?_
          refine s_append (J := A) (I' := (A.un N_4)) (p := 6) 1256584717458 hm rfl rfl rfl Try.underlying61 ti84 rfl rfl rfl rfl hS rfl ho_152 (hp0_0.src (hS.own 2)) ((Mem.le.refl _).trans (hS.sndA hA)) (Mem.le_un _ _) et_17 ?_
          intro w_156 v_157 M_158 hS' ho_159
          clear hm a; intro a hm
          replace hS : Sep w0 w_156 [N_4, Mem.one g0 (.cells ([p0_0, p0_1] : List Value).toArray 63 (0, 0)), M0_0, M0_1, Mem.one g_2 (.cells ([.int .i64 x1.Sess, .int .i64 x1.Seq, .int .i64 x1.Cmd.Kind, .int .i64 x1.Cmd.Who, p1_2, p1_3, p1_4] : List Value).toArray 45 (0, 0)), M_145, M_158] Z := hS'
          clear hS'
          refine wpList_nil ?_
          refine x_then_n ⟨(hS.sub (.cons (Mem.le.refl _) (.cons (Mem.no_le _) (.cons (Mem.le.refl _) (.cons (Mem.le.refl _) (.cons (Mem.le.refl _) (Sub.nil _))))))), ?_⟩
          refine h_event 10 [true, true, true, true, true, true, true, true, true, true, true, false, false, false].toArray rfl (by kernel_rfl) rfl ?_
          refine s_append (J := (A.un N_4)) (I' := (A.un N_4)) (p := 6) 1256584717458 hm rfl rfl rfl Try.underlying61 ti84 rfl rfl rfl rfl hS rfl ho_159 (ho_146.src (hS.own 5)) (Mem.un_left (Mem.le.refl _)) (Mem.un_left (Mem.le.refl _)) et_29 ?_
          intro w_162 v_163 M_164 hS' ho_165
          clear hm a; intro a hm
          replace hS : Sep w0 w_162 [N_4, Mem.one g0 (.cells ([p0_0, p0_1] : List Value).toArray 63 (0, 0)), M0_0, M0_1, Mem.one g_2 (.cells ([.int .i64 x1.Sess, .int .i64 x1.Seq, .int .i64 x1.Cmd.Kind, .int .i64 x1.Cmd.Who, p1_2, p1_3, p1_4] : List Value).toArray 45 (0, 0)), M_145, M_164] Z := hS'
          clear hS'
          refine wpList_nil ?_
          refine x_then_n ⟨(hS.sub (.cons (Mem.le.refl _) (.cons (Mem.no_le _) (.cons (Mem.le.refl _) (.cons (Mem.le.refl _) (.cons (Mem.le.refl _) (Sub.nil _))))))), ?_⟩
          refine h_take 11 [true, true, true, true, true, true, true, true, true, true, true, true, false, false].toArray rfl (by kernel_rfl) (by kernel_rfl) (by kernel_rfl) (fun _ _ _ _ h => h) rfl rfl rfl rfl hm (hS.sub (.cons (Mem.le.refl _) (.cons (Mem.no_le _) (.cons (Mem.le.refl _) (.cons (Mem.le.refl _) (.cons (Mem.le.refl _) (Sub.nil _))))))) (v := .pointer (some ⟨g0, 0, none⟩)) (fun w hS => r_nilCheck hm rfl) ?_
          clear hm a; intro a hm
          refine h_take 12 [true, true, true, true, true, true, true, true, true, true, true, true, true, false].toArray rfl (by kernel_rfl) (by kernel_rfl) (by kernel_rfl) (fun _ _ _ _ h => h) rfl rfl rfl rfl hm (hS.sub (.cons (Mem.le.refl _) (.cons (Mem.no_le _) (.cons (Mem.le.refl _) (.cons (Mem.le.refl _) (.cons (Mem.le.refl _) (Sub.nil _))))))) (v := .pointer (some ⟨g0, 0, none⟩)) (fun w hS => r_fieldAddr hm Try.underlying63 rfl ti61 rfl rfl rfl) ?_
          clear hm a; intro a hm
          refine h_event 13 [true, true, true, true, true, true, true, true, true, true, true, true, true, true].toArray rfl (by kernel_rfl) rfl ?_
          obtain ⟨w_167, hs', hS'⟩ := hS.store (P := Try.prog) (p := 1) (o := 0) (t := 61) (v := v_163) (vs := [v_163]) rfl ti61 ho_165.cellsA rfl rfl (by intro u hu; simp only [List.mem_cons, List.not_mem_nil, or_false] at hu; rcases hu with rfl <;> first | rfl | exact ho_165.one)
          refine s_store hm rfl rfl hs' ?_
          replace hS : Sep w0 w_167 [N_4, Mem.one g0 (.cells ([v_163, p0_1] : List Value).toArray 63 (0, 0)), M0_0, M0_1, Mem.one g_2 (.cells ([.int .i64 x1.Sess, .int .i64 x1.Seq, .int .i64 x1.Cmd.Kind, .int .i64 x1.Cmd.Who, p1_2, p1_3, p1_4] : List Value).toArray 45 (0, 0)), M_145, M_164] Z := hS'
          clear hs' hS'
          refine wpList_nil ?_
          refine x_then_n ⟨(hS.sub (.cons (Mem.le.refl _) (.cons (Mem.no_le _) (.cons (Mem.le.refl _) (.cons (Mem.le.refl _) (.cons (Mem.le.refl _) (Sub.nil _))))))), ?_⟩
          refine h_done (by kernel_rfl) ?_
          replace hm : Fr 60 a [(4, .bool false)] := hm.keep [4]
          refine x_then_n (hKJ_9 _ _ ?_)
          refine wp_seq ?_
          refine wp_region_lit ?_
          refine s_assign hm rfl rfl ?_
          clear hm a; intro a hm
          refine wpList_nil ?_
          replace hm : Fr 60 a [(4, .bool true)] := hm.keep [4]
          refine x_then_n ?_
          refine wp_ret ?_
          obtain rfl := Option.some.inj H
          exact f_ret hm (rs := [.tmp 4]) rfl (.tmp rfl .nil) ⟨_, rfl, v_163, p0_1, N_4, M_164, M0_1, rfl, (Sep.sel hS [0, 1, 6, 3] (by decide)), (ho_165.mono (Mem.un_left (Mem.le.refl _))), (hp0_1.mono (Mem.le_un _ _))⟩
        · refine ⟨_, [true, false, true, true, true, true, false, true, true, true, false, false, false, false].toArray, rfl, rfl, ?_⟩
          refine s_load hm rfl rfl (hS.load_one (p := 1) rfl Try.underlying61 rfl rfl) ?_
          clear hm a; intro a hm
          refine wpList_nil ?_
          refine x_then_n ⟨(hS.sub (.cons (Mem.le.refl _) (.cons (Mem.no_le _) (.cons (Mem.le.refl _) (.cons (Mem.le.refl _) (.cons (Mem.le.refl _) (Sub.nil _))))))), ?_⟩
          refine h_event 1 [true, true, true, true, true, true, false, true, true, true, false, false, false, false].toArray rfl (by kernel_rfl) rfl ?_
          have hq_172 : Reps k_hocketref15_call N_4 ([] : List hocketref15_call) _ := (Reps.nil k_hocketref15_call _)
          refine s_buildSlice hm rfl Try.underlying61 ti84 rfl rfl rfl .nil rfl rfl rfl hS hq_172 rfl ?_
          intro w_168 v_169 M_170 hS' ho_171
          clear hm a; intro a hm
          replace hS : Sep w0 w_168 [N_4, Mem.one g0 (.cells ([p0_0, p0_1] : List Value).toArray 63 (0, 0)), M0_0, M0_1, Mem.one g_2 (.cells ([.int .i64 x1.Sess, .int .i64 x1.Seq, .int .i64 x1.Cmd.Kind, .int .i64 x1.Cmd.Who, p1_2, p1_3, p1_4] : List Value).toArray 45 (0, 0)), M_145, M_170] Z := hS'
          clear hS' hq_172
          refine wpList_nil ?_
          refine x_then_n ⟨(hS.sub (.cons (Mem.le.refl _) (.cons (Mem.no_le _) (.cons (Mem.le.refl _) (.cons (Mem.le.refl _) (.cons (Mem.le.refl _) (Sub.nil _))))))), ?_⟩
          refine h_event 6 [true, true, true, true, true, true, true, true, true, true, false, false, false, false].toArray rfl (by kernel_rfl) rfl ?_
          refine s_append (J := A) (I' := (A.un N_4)) (p := 6) 1256584717458 hm rfl rfl rfl Try.underlying61 ti84 rfl rfl rfl rfl hS rfl ho_171 (hp0_0.src (hS.own 2)) ((Mem.le.refl _).trans (hS.sndA hA)) (Mem.le_un _ _) et_17 ?_
          intro w_175 v_176 M_177 hS' ho_178
          clear hm a; intro a hm
          replace hS : Sep w0 w_175 [N_4, Mem.one g0 (.cells ([p0_0, p0_1] : List Value).toArray 63 (0, 0)), M0_0, M0_1, Mem.one g_2 (.cells ([.int .i64 x1.Sess, .int .i64 x1.Seq, .int .i64 x1.Cmd.Kind, .int .i64 x1.Cmd.Who, p1_2, p1_3, p1_4] : List Value).toArray 45 (0, 0)), M_145, M_177] Z := hS'
          clear hS'
          refine wpList_nil ?_
          refine x_then_n ⟨(hS.sub (.cons (Mem.le.refl _) (.cons (Mem.no_le _) (.cons (Mem.le.refl _) (.cons (Mem.le.refl _) (.cons (Mem.le.refl _) (Sub.nil _))))))), ?_⟩
          refine h_event 10 [true, true, true, true, true, true, true, true, true, true, true, false, false, false].toArray rfl (by kernel_rfl) rfl ?_
          refine s_append (J := (A.un N_4)) (I' := (A.un N_4)) (p := 6) 1256584717458 hm rfl rfl rfl Try.underlying61 ti84 rfl rfl rfl rfl hS rfl ho_178 (ho_146.src (hS.own 5)) (Mem.un_left (Mem.le.refl _)) (Mem.un_left (Mem.le.refl _)) et_29 ?_
          intro w_181 v_182 M_183 hS' ho_184
          clear hm a; intro a hm
          replace hS : Sep w0 w_181 [N_4, Mem.one g0 (.cells ([p0_0, p0_1] : List Value).toArray 63 (0, 0)), M0_0, M0_1, Mem.one g_2 (.cells ([.int .i64 x1.Sess, .int .i64 x1.Seq, .int .i64 x1.Cmd.Kind, .int .i64 x1.Cmd.Who, p1_2, p1_3, p1_4] : List Value).toArray 45 (0, 0)), M_145, M_183] Z := hS'
          clear hS'
          refine wpList_nil ?_
          refine x_then_n ⟨(hS.sub (.cons (Mem.le.refl _) (.cons (Mem.no_le _) (.cons (Mem.le.refl _) (.cons (Mem.le.refl _) (.cons (Mem.le.refl _) (Sub.nil _))))))), ?_⟩
          refine h_take 11 [true, true, true, true, true, true, true, true, true, true, true, true, false, false].toArray rfl (by kernel_rfl) (by kernel_rfl) (by kernel_rfl) (fun _ _ _ _ h => h) rfl rfl rfl rfl hm (hS.sub (.cons (Mem.le.refl _) (.cons (Mem.no_le _) (.cons (Mem.le.refl _) (.cons (Mem.le.refl _) (.cons (Mem.le.refl _) (Sub.nil _))))))) (v := .pointer (some ⟨g0, 0, none⟩)) (fun w hS => r_nilCheck hm rfl) ?_
          clear hm a; intro a hm
          refine h_take 12 [true, true, true, true, true, true, true, true, true, true, true, true, true, false].toArray rfl (by kernel_rfl) (by kernel_rfl) (by kernel_rfl) (fun _ _ _ _ h => h) rfl rfl rfl rfl hm (hS.sub (.cons (Mem.le.refl _) (.cons (Mem.no_le _) (.cons (Mem.le.refl _) (.cons (Mem.le.refl _) (.cons (Mem.le.refl _) (Sub.nil _))))))) (v := .pointer (some ⟨g0, 0, none⟩)) (fun w hS => r_fieldAddr hm Try.underlying63 rfl ti61 rfl rfl rfl) ?_
          clear hm a; intro a hm
          refine h_event 13 [true, true, true, true, true, true, true, true, true, true, true, true, true, true].toArray rfl (by kernel_rfl) rfl ?_
          obtain ⟨w_186, hs', hS'⟩ := hS.store (P := Try.prog) (p := 1) (o := 0) (t := 61) (v := v_182) (vs := [v_182]) rfl ti61 ho_184.cellsA rfl rfl (by intro u hu; simp only [List.mem_cons, List.not_mem_nil, or_false] at hu; rcases hu with rfl <;> first | rfl | exact ho_184.one)
          refine s_store hm rfl rfl hs' ?_
          replace hS : Sep w0 w_186 [N_4, Mem.one g0 (.cells ([v_182, p0_1] : List Value).toArray 63 (0, 0)), M0_0, M0_1, Mem.one g_2 (.cells ([.int .i64 x1.Sess, .int .i64 x1.Seq, .int .i64 x1.Cmd.Kind, .int .i64 x1.Cmd.Who, p1_2, p1_3, p1_4] : List Value).toArray 45 (0, 0)), M_145, M_183] Z := hS'
          clear hs' hS'
          refine wpList_nil ?_
          refine x_then_n ⟨(hS.sub (.cons (Mem.le.refl _) (.cons (Mem.no_le _) (.cons (Mem.le.refl _) (.cons (Mem.le.refl _) (.cons (Mem.le.refl _) (Sub.nil _))))))), ?_⟩
          refine h_done (by kernel_rfl) ?_
          replace hm : Fr 60 a [(4, .bool false)] := hm.keep [4]
          refine x_then_n (hKJ_9 _ _ ?_)
          refine wp_seq ?_
          refine wp_region_lit ?_
          refine s_assign hm rfl rfl ?_
          clear hm a; intro a hm
          refine wpList_nil ?_
          replace hm : Fr 60 a [(4, .bool true)] := hm.keep [4]
          refine x_then_n ?_
          refine wp_ret ?_
          obtain rfl := Option.some.inj H
          exact f_ret hm (rs := [.tmp 4]) rfl (.tmp rfl .nil) ⟨_, rfl, v_182, p0_1, N_4, M_183, M0_1, rfl, (Sep.sel hS [0, 1, 6, 3] (by decide)), (ho_184.mono (Mem.un_left (Mem.le.refl _))), (hp0_1.mono (Mem.le_un _ _))⟩
  clear hKJ_3
  replace hS : Sep w0 w_1 [Mem.no, Mem.one g0 (.cells ([p0_0, p0_1] : List Value).toArray 63 (0, 0)), M0_0, M0_1, Mem.one g_2 (.cells ([.int .i64 x1.Sess, .int .i64 x1.Seq, .int .i64 x1.Cmd.Kind, .int .i64 x1.Cmd.Who, p1_2, p1_3, p1_4] : List Value).toArray 45 (0, 0))] Z := hS
  replace hm : Fr 60 a [(0, .pointer (some ⟨g0, 0, none⟩)), (3, .pointer (some ⟨g_2, 0, none⟩)), (4, .bool false), (5, .int .i64 0)] := hm.keep [0, 3, 4, 5]
  refine c_block ?_
  refine c_loop (fun k_189 a w_189 => ∃ (x_188 : Int) (N_187 : Mem), hocketref15_Calls_Call.L1 K x0_l x1 x0_r (fun v => hocketref15_Calls_Call.J1 K x0_l x0_r x1) k_189 x_188 = some r ∧ Fr 60 a [(0, .pointer (some ⟨g0, 0, none⟩)), (3, .pointer (some ⟨g_2, 0, none⟩)), (4, .bool false), (5, .int .i64 x_188)] ∧ Sep w0 w_189 [N_187, Mem.one g0 (.cells ([p0_0, p0_1] : List Value).toArray 63 (0, 0)), M0_0, M0_1, Mem.one g_2 (.cells ([.int .i64 x1.Sess, .int .i64 x1.Seq, .int .i64 x1.Cmd.Kind, .int .i64 x1.Cmd.Who, p1_2, p1_3, p1_4] : List Value).toArray 45 (0, 0))] Z ∧ Mem.no.le N_187) K ⟨0, Mem.no, H, hm, (Sep.sel hS [0, 1, 2, 3, 4] (by decide)), (Mem.le.refl _)⟩ (fun a w h => by obtain ⟨_, _, H, _⟩ := h; cases (show (none : Option (Bool × (List hocketref15_call) × (List api_Reply))) = some r from H)) ?_
  clear hm hS a H
  rintro k_189 a w_189 KL_189 hKL_189 ⟨x_188, N_187, H, hm, hS, le_187⟩
  replace H : hocketref15_Calls_Call.B1 K x0_l x1 x0_r (fun v => hocketref15_Calls_Call.J1 K x0_l x0_r x1) (hocketref15_Calls_Call.L1 K x0_l x1 x0_r (fun v => hocketref15_Calls_Call.J1 K x0_l x0_r x1) k_189) x_188 = some r := H
  unfold hocketref15_Calls_Call.B1 at H
  refine c_seq fun KJ_191 hKJ_191 => ?_
  refine wp_seq ?_
  refine wp_region_lit ?_
  refine s_move hm rfl rfl ?_
  clear hm a; intro a hm
  refine s_move hm rfl rfl ?_
  clear hm a; intro a hm
  refine s_nilCheck hm rfl rfl ?_
  clear hm a; intro a hm
  refine s_fieldAddr hm rfl Try.underlying63 rfl ti61 rfl rfl ?_
  clear hm a; intro a hm
  refine s_load hm rfl rfl (hS.load_one (p := 1) rfl Try.underlying61 rfl rfl) ?_
  clear hm a; intro a hm
  refine s_lenO hm rfl Try.underlying61 rfl hp0_0 ?_
  clear hm a; intro a hm
  refine s_cmp (b := decide (x_188 < (x0_l.length : Int))) hm rfl rfl rfl (.inr (.inr (.inl ⟨rfl, rfl⟩))) ?_
  clear hm a; intro a hm
  refine wpList_nil ?_
  replace hm : Fr 60 a [(0, .pointer (some ⟨g0, 0, none⟩)), (3, .pointer (some ⟨g_2, 0, none⟩)), (4, .bool false), (5, .int .i64 x_188), (12, .bool (decide (x_188 < (x0_l.length : Int))))] := hm.keep [0, 3, 4, 5, 12]
  refine x_then_n ?_
  by_cases hc_192 : x_188 < (x0_l.length : Int)
  · rw [if_pos hc_192] at H
    refine c_cond_t hm rfl (decide_eq_true hc_192) ?_
    refine wp_skip ?_
    refine x_then_n (hKJ_191 _ _ ?_)
    refine c_seq fun KJ_193 hKJ_193 => ?_
    refine c_block ?_
    refine c_seq fun KJ_194 hKJ_194 => ?_
    have hJ_j_198 : ∀ (x_196 : Bool), hocketref15_Calls_Call.J2 K x0_l x0_r (hocketref15_Calls_Call.L1 K x0_l x1 x0_r (fun v => hocketref15_Calls_Call.J1 K x0_l x0_r x1) k_189) x_188 x_196 = some r → ∀ (a : Act) (w_197 : World), (∃ (N_195 : Mem), Fr 60 a [(0, .pointer (some ⟨g0, 0, none⟩)), (3, .pointer (some ⟨g_2, 0, none⟩)), (4, .bool false), (5, .int .i64 x_188), (40, .bool x_196)] ∧ Sep w0 w_197 [N_195, Mem.one g0 (.cells ([p0_0, p0_1] : List Value).toArray 63 (0, 0)), M0_0, M0_1, Mem.one g_2 (.cells ([.int .i64 x1.Sess, .int .i64 x1.Seq, .int .i64 x1.Cmd.Kind, .int .i64 x1.Cmd.Who, p1_2, p1_3, p1_4] : List Value).toArray 45 (0, 0))] Z ∧ N_187.le N_195) → KJ_194 a w_197 := by
      clear H hm hS a
      rintro x_196 H a w_197 ⟨N_195, hm, hS, le_195⟩
      unfold hocketref15_Calls_Call.J2 at H
      refine hKJ_194 _ _ ?_
      by_cases hc_199 : x_196 = true
      · rw [if_pos hc_199] at H
        refine c_cond_t hm rfl hc_199 ?_
        refine wp_seq ?_
        refine wp_region_lit ?_
        refine s_assign hm rfl rfl ?_
        clear hm a; intro a hm
        refine wpList_nil ?_
        replace hm : Fr 60 a [(0, .pointer (some ⟨g0, 0, none⟩)), (3, .pointer (some ⟨g_2, 0, none⟩)), (4, .bool true), (5, .int .i64 x_188)] := hm.keep [0, 3, 4, 5]
        refine x_then_n ?_
        refine wp_ret (x_block_r (x_then_r (x_then_r (x_block_r (x_then_r ?_)))))
        obtain rfl := Option.some.inj H
        exact f_ret hm (rs := [.tmp 4]) rfl (.tmp rfl .nil) ⟨_, rfl, p0_0, p0_1, N_195, M0_0, M0_1, rfl, (Sep.sel hS [0, 1, 2, 3] (by decide)), (hp0_0.mono (Mem.le_un _ _)), (hp0_1.mono (Mem.le_un _ _))⟩
      · rw [if_neg hc_199] at H
        refine c_cond_f hm rfl (Bool.eq_false_iff.2 hc_199) ?_
        refine wp_skip ?_
        refine x_block_n ?_
        refine x_then_n (hKJ_193 _ _ ?_)
        refine wp_region_lit ?_
        refine s_move hm rfl rfl ?_
        clear hm a; intro a hm
        refine s_arith (r := w64 (x_188 + 1)) hm rfl rfl rfl (.inl ⟨rfl, rfl⟩) ?_
        clear hm a; intro a hm
        refine s_assign hm rfl rfl ?_
        clear hm a; intro a hm
        refine wpList_nil ?_
        replace hm : Fr 60 a [(0, .pointer (some ⟨g0, 0, none⟩)), (3, .pointer (some ⟨g_2, 0, none⟩)), (4, .bool false), (5, .int .i64 (w64 (x_188 + 1)))] := hm.keep [0, 3, 4, 5]
        refine x_then_n (hKL_189 _ _ ?_)
        replace hS : Sep w0 w_197 [N_195, Mem.one g0 (.cells ([p0_0, p0_1] : List Value).toArray 63 (0, 0)), M0_0, M0_1, Mem.one g_2 (.cells ([.int .i64 x1.Sess, .int .i64 x1.Seq, .int .i64 x1.Cmd.Kind, .int .i64 x1.Cmd.Who, p1_2, p1_3, p1_4] : List Value).toArray 45 (0, 0))] Z := hS
        replace hm : Fr 60 a [(0, .pointer (some ⟨g0, 0, none⟩)), (3, .pointer (some ⟨g_2, 0, none⟩)), (4, .bool false), (5, .int .i64 (w64 (x_188 + 1)))] := hm.keep [0, 3, 4, 5]
        exact ⟨w64 (x_188 + 1), N_195, H, hm, (Sep.sel hS [0, 1, 2, 3, 4] (by decide)), (le_187.trans le_195)⟩
    clear hKJ_194
    refine h_begin (S := fun w => Sep w0 w [N_187, Mem.one g0 (.cells ([p0_0, p0_1] : List Value).toArray 63 (0, 0)), M0_0, M0_1, Mem.one g_2 (.cells ([.int .i64 x1.Sess, .int .i64 x1.Seq, .int .i64 x1.Cmd.Kind, .int .i64 x1.Cmd.Who, p1_2, p1_3, p1_4] : List Value).toArray 45 (0, 0))] Z) 26 (by kernel_rfl) rfl [false, false, false, false, false, false, false, false, false, false, false, false, false, false, false, false, false, false, false, false, false, false, false, false, false, false].toArray rfl hS fun w_200 hS => ?_
    replace hS : Sep w0 w_200 [N_187, Mem.one g0 (.cells ([p0_0, p0_1] : List Value).toArray 63 (0, 0)), M0_0, M0_1, Mem.one g_2 (.cells ([.int .i64 x1.Sess, .int .i64 x1.Seq, .int .i64 x1.Cmd.Kind, .int .i64 x1.Cmd.Who, p1_2, p1_3, p1_4] : List Value).toArray 45 (0, 0))] Z := hS
    refine h_take 0 [true, false, false, false, false, false, false, false, false, false, false, false, false, false, false, false, false, false, false, false, false, false, false, false, false, false].toArray rfl (by kernel_rfl) (by kernel_rfl) (by kernel_rfl) (fun _ _ _ _ h => h) rfl rfl rfl rfl hm (hS.sub (.cons (Mem.le.refl _) (.cons (Mem.le.refl _) (.cons (Mem.le.refl _) (.cons (Mem.le.refl _) (.cons (Mem.le.refl _) (Sub.nil _))))))) (v := .pointer (some ⟨g0, 0, none⟩)) (fun w hS => r_move hm rfl) ?_
    clear hm a; intro a hm
    refine h_take 1 [true, true, false, false, false, false, false, false, false, false, false, false, false, false, false, false, false, false, false, false, false, false, false, false, false, false].toArray rfl (by kernel_rfl) (by kernel_rfl) (by kernel_rfl) (fun _ _ _ _ h => h) rfl rfl rfl rfl hm (hS.sub (.cons (Mem.le.refl _) (.cons (Mem.le.refl _) (.cons (Mem.le.refl _) (.cons (Mem.le.refl _) (.cons (Mem.le.refl _) (Sub.nil _))))))) (v := .pointer (some ⟨g0, 0, none⟩)) (fun w hS => r_nilCheck hm rfl) ?_
    clear hm a; intro a hm
    refine h_take 2 [true, true, true, false, false, false, false, false, false, false, false, false, false, false, false, false, false, false, false, false, false, false, false, false, false, false].toArray rfl (by kernel_rfl) (by kernel_rfl) (by kernel_rfl) (fun _ _ _ _ h => h) rfl rfl rfl rfl hm (hS.sub (.cons (Mem.le.refl _) (.cons (Mem.le.refl _) (.cons (Mem.le.refl _) (.cons (Mem.le.refl _) (.cons (Mem.le.refl _) (Sub.nil _))))))) (v := .pointer (some ⟨g0, 0, none⟩)) (fun w hS => r_fieldAddr hm Try.underlying63 rfl ti61 rfl rfl rfl) ?_
    clear hm a; intro a hm
    refine h_take 3 [true, true, true, true, false, false, false, false, false, false, false, false, false, false, false, false, false, false, false, false, false, false, false, false, false, false].toArray rfl (by kernel_rfl) (by kernel_rfl) (by kernel_rfl) (fun _ _ _ _ h => h) rfl rfl rfl rfl hm (hS.sub (.cons (Mem.le.refl _) (.cons (Mem.le.refl _) (.cons (Mem.le.refl _) (.cons (Mem.le.refl _) (.cons (Mem.le.refl _) (Sub.nil _))))))) (v := p0_0) (fun w hS => r_load hm rfl (hS.load_one (p := 1) rfl Try.underlying61 rfl rfl)) ?_
    clear hm a; intro a hm
    refine h_take 4 [true, true, true, true, true, false, false, false, false, false, false, false, false, false, false, false, false, false, false, false, false, false, false, false, false, false].toArray rfl (by kernel_rfl) (by kernel_rfl) (by kernel_rfl) (fun _ _ _ _ h => h) rfl rfl rfl rfl hm (hS.sub (.cons (Mem.le.refl _) (.cons (Mem.le.refl _) (.cons (Mem.le.refl _) (.cons (Mem.le.refl _) (.cons (Mem.le.refl _) (Sub.nil _))))))) (v := .int .i64 x_188) (fun w hS => r_move hm rfl) ?_
    clear hm a; intro a hm
    obtain ⟨t_201, et_201, H⟩ := Option.bind_eq_some_iff.1 H
    refine h_takeE 5 [true, true, true, true, true, true, false, false, false, false, false, false, false, false, false, false, false, false, false, false, false, false, false, false, false, false].toArray rfl (by kernel_rfl) (by kernel_rfl) (by kernel_rfl) (fun _ _ _ _ h => h) rfl rfl rfl rfl hm (hS.sub (.cons (Mem.le.refl _) (.cons (Mem.le.refl _) (.cons (Mem.le.refl _) (.cons (Mem.le.refl _) (.cons (Mem.le.refl _) (Sub.nil _))))))) (f := fun ad => .pointer (some ad)) (r_indexO hm Try.underlying61 ti84 rfl rfl rfl hp0_0 et_201) ?_
    rintro ad_202 ⟨cs_203, hk_204, hc_205⟩
    obtain ⟨v_206, v_208, v_210, rfl, hr_207, hr_209, hr_211⟩ := k_hocketref15_call.open' hk_204
    clear hm a; intro a hm
    refine h_take 6 [true, true, true, true, true, true, true, false, false, false, false, false, false, false, false, false, false, false, false, false, false, false, false, false, false, false].toArray rfl (by kernel_rfl) (by kernel_rfl) (by kernel_rfl) (fun _ _ _ _ h => h) rfl rfl rfl rfl hm (hS.sub (.cons (Mem.le.refl _) (.cons (Mem.le.refl _) (.cons (Mem.le.refl _) (.cons (Mem.le.refl _) (.cons (Mem.le.refl _) (Sub.nil _))))))) (v := .pointer (some (ad_202.add 0))) (fun w hS => r_fieldAddr hm Try.underlying84 rfl ti45 rfl rfl rfl) ?_
    clear hm a; intro a hm
    refine h_take 7 [true, true, true, true, true, true, true, true, false, false, false, false, false, false, false, false, false, false, false, false, false, false, false, false, false, false].toArray rfl (by kernel_rfl) (by kernel_rfl) (by kernel_rfl) (fun _ _ _ _ h => h) rfl rfl rfl rfl hm (hS.sub (.cons (Mem.le.refl _) (.cons (Mem.le.refl _) (.cons (Mem.le.refl _) (.cons (Mem.le.refl _) (.cons (Mem.le.refl _) (Sub.nil _))))))) (v := .pointer (some ((ad_202.add 0).add 0))) (fun w hS => r_fieldAddr hm Try.underlying45 rfl ti3 rfl rfl rfl) ?_
    clear hm a; intro a hm
    refine h_take 8 [true, true, true, true, true, true, true, true, true, false, false, false, false, false, false, false, false, false, false, false, false, false, false, false, false, false].toArray rfl (by kernel_rfl) (by kernel_rfl) (by kernel_rfl) (fun _ _ _ _ h => h) rfl rfl rfl rfl hm (hS.sub (.cons (Mem.le.refl _) (.cons (Mem.le.refl _) (.cons (Mem.le.refl _) (.cons (Mem.le.refl _) (.cons (Mem.le.refl _) (Sub.nil _))))))) (v := .int .i64 t_201.e.Sess) (fun w hS => r_load hm rfl (by rw [Addr.add_add]; exact el_one (o := 0) (fun j c h => Mem.cell_le (hS.own 2) (hc_205 j c h)) Try.underlying3 rfl rfl)) ?_
    clear hm a; intro a hm
    refine h_take 9 [true, true, true, true, true, true, true, true, true, true, false, false, false, false, false, false, false, false, false, false, false, false, false, false, false, false].toArray rfl (by kernel_rfl) (by kernel_rfl) (by kernel_rfl) (fun _ _ _ _ h => h) rfl rfl rfl rfl hm (hS.sub (.cons (Mem.le.refl _) (.cons (Mem.le.refl _) (.cons (Mem.le.refl _) (.cons (Mem.le.refl _) (.cons (Mem.le.refl _) (Sub.nil _))))))) (v := .pointer (some ⟨g_2, 0, none⟩)) (fun w hS => r_fieldAddr hm Try.underlying45 rfl ti3 rfl rfl rfl) ?_
    clear hm a; intro a hm
    refine h_take 10 [true, true, true, true, true, true, true, true, true, true, true, false, false, false, false, false, false, false, false, false, false, false, false, false, false, false].toArray rfl (by kernel_rfl) (by kernel_rfl) (by kernel_rfl) (fun _ _ _ _ h => h) rfl rfl rfl rfl hm (hS.sub (.cons (Mem.le.refl _) (.cons (Mem.le.refl _) (.cons (Mem.le.refl _) (.cons (Mem.le.refl _) (.cons (Mem.le.refl _) (Sub.nil _))))))) (v := .int .i64 x1.Sess) (fun w hS => r_load hm rfl (hS.load_one (p := 4) rfl Try.underlying3 rfl rfl)) ?_
    clear hm a; intro a hm
    refine h_take 11 [true, true, true, true, true, true, true, true, true, true, true, true, false, false, false, false, false, false, false, false, false, false, false, false, false, false].toArray rfl (by kernel_rfl) (by kernel_rfl) (by kernel_rfl) (fun _ _ _ _ h => h) rfl rfl rfl rfl hm (hS.sub (.cons (Mem.le.refl _) (.cons (Mem.le.refl _) (.cons (Mem.le.refl _) (.cons (Mem.le.refl _) (.cons (Mem.le.refl _) (Sub.nil _))))))) (v := .bool (t_201.e.Sess == x1.Sess)) (fun w hS => r_cmp (b := (t_201.e.Sess == x1.Sess)) hm rfl rfl (.inl ⟨rfl, rfl⟩)) ?_
    clear hm a; intro a hm
    refine h_take 12 [true, true, true, true, true, true, true, true, true, true, true, true, true, false, false, false, false, false, false, false, false, false, false, false, false, false].toArray rfl (by kernel_rfl) (by kernel_rfl) (by kernel_rfl) (fun _ _ _ _ h => h) rfl rfl rfl rfl hm (hS.sub (.cons (Mem.le.refl _) (.cons (Mem.le.refl _) (.cons (Mem.le.refl _) (.cons (Mem.le.refl _) (.cons (Mem.le.refl _) (Sub.nil _))))))) (v := .bool (t_201.e.Sess == x1.Sess)) (fun w hS => r_move hm rfl) ?_
    clear hm a; intro a hm
    by_cases hc_212 : t_201.e.Sess = x1.Sess
    · rw [if_pos hc_212] at H
      refine h_take_on 13 [true, true, true, true, true, true, true, true, true, true, true, true, true, true, false, false, false, false, false, false, false, false, false, false, false, false].toArray rfl (by kernel_rfl) (by kernel_rfl) (by kernel_rfl) (fun _ _ _ _ h => h) rfl rfl rfl rfl (beq_iff_eq.2 hc_212) rfl rfl hm (hS.sub (.cons (Mem.le.refl _) (.cons (Mem.le.refl _) (.cons (Mem.le.refl _) (.cons (Mem.le.refl _) (.cons (Mem.le.refl _) (Sub.nil _))))))) (v := .pointer (some ⟨g0, 0, none⟩)) (fun w hS => r_move hm rfl) ?_
      clear hm a; intro a hm
      refine h_take_on 14 [true, true, true, true, true, true, true, true, true, true, true, true, true, true, true, false, false, false, false, false, false, false, false, false, false, false].toArray rfl (by kernel_rfl) (by kernel_rfl) (by kernel_rfl) (fun _ _ _ _ h => h) rfl rfl rfl rfl (beq_iff_eq.2 hc_212) rfl rfl hm (hS.sub (.cons (Mem.le.refl _) (.cons (Mem.le.refl _) (.cons (Mem.le.refl _) (.cons (Mem.le.refl _) (.cons (Mem.le.refl _) (Sub.nil _))))))) (v := .pointer (some ⟨g0, 0, none⟩)) (fun w hS => r_nilCheck hm rfl) ?_
      clear hm a; intro a hm
      refine h_take_on 15 [true, true, true, true, true, true, true, true, true, true, true, true, true, true, true, true, false, false, false, false, false, false, false, false, false, false].toArray rfl (by kernel_rfl) (by kernel_rfl) (by kernel_rfl) (fun _ _ _ _ h => h) rfl rfl rfl rfl (beq_iff_eq.2 hc_212) rfl rfl hm (hS.sub (.cons (Mem.le.refl _) (.cons (Mem.le.refl _) (.cons (Mem.le.refl _) (.cons (Mem.le.refl _) (.cons (Mem.le.refl _) (Sub.nil _))))))) (v := .pointer (some ⟨g0, 0, none⟩)) (fun w hS => r_fieldAddr hm Try.underlying63 rfl ti61 rfl rfl rfl) ?_
      clear hm a; intro a hm
      refine h_take_on 16 [true, true, true, true, true, true, true, true, true, true, true, true, true, true, true, true, true, false, false, false, false, false, false, false, false, false].toArray rfl (by kernel_rfl) (by kernel_rfl) (by kernel_rfl) (fun _ _ _ _ h => h) rfl rfl rfl rfl (beq_iff_eq.2 hc_212) rfl rfl hm (hS.sub (.cons (Mem.le.refl _) (.cons (Mem.le.refl _) (.cons (Mem.le.refl _) (.cons (Mem.le.refl _) (.cons (Mem.le.refl _) (Sub.nil _))))))) (v := p0_0) (fun w hS => r_load hm rfl (hS.load_one (p := 1) rfl Try.underlying61 rfl rfl)) ?_
      clear hm a; intro a hm
      refine h_take_on 17 [true, true, true, true, true, true, true, true, true, true, true, true, true, true, true, true, true, true, false, false, false, false, false, false, false, false].toArray rfl (by kernel_rfl) (by kernel_rfl) (by kernel_rfl) (fun _ _ _ _ h => h) rfl rfl rfl rfl (beq_iff_eq.2 hc_212) rfl rfl hm (hS.sub (.cons (Mem.le.refl _) (.cons (Mem.le.refl _) (.cons (Mem.le.refl _) (.cons (Mem.le.refl _) (.cons (Mem.le.refl _) (Sub.nil _))))))) (v := .int .i64 x_188) (fun w hS => r_move hm rfl) ?_
      clear hm a; intro a hm
      obtain ⟨t_213, et_213, H⟩ := Option.bind_eq_some_iff.1 H
      refine h_takeE_on 18 [true, true, true, true, true, true, true, true, true, true, true, true, true, true, true, true, true, true, true, false, false, false, false, false, false, false].toArray rfl (by kernel_rfl) (by kernel_rfl) (by kernel_rfl) (fun _ _ _ _ h => h) rfl rfl rfl rfl (beq_iff_eq.2 hc_212) rfl rfl hm (hS.sub (.cons (Mem.le.refl _) (.cons (Mem.le.refl _) (.cons (Mem.le.refl _) (.cons (Mem.le.refl _) (.cons (Mem.le.refl _) (Sub.nil _))))))) (f := fun ad => .pointer (some ad)) (r_indexO hm Try.underlying61 ti84 rfl rfl rfl hp0_0 et_213) ?_
      rintro ad_214 ⟨cs_215, hk_216, hc_217⟩
      obtain ⟨v_218, v_220, v_222, rfl, hr_219, hr_221, hr_223⟩ := k_hocketref15_call.open' hk_216
      clear hm a; intro a hm
      refine h_take_on 19 [true, true, true, true, true, true, true, true, true, true, true, true, true, true, true, true, true, true, true, true, false, false, false, false, false, false].toArray rfl (by kernel_rfl) (by kernel_rfl) (by kernel_rfl) (fun _ _ _ _ h => h) rfl rfl rfl rfl (beq_iff_eq.2 hc_212) rfl rfl hm (hS.sub (.cons (Mem.le.refl _) (.cons (Mem.le.refl _) (.cons (Mem.le.refl _) (.cons (Mem.le.refl _) (.cons (Mem.le.refl _) (Sub.nil _))))))) (v := .pointer (some (ad_214.add 0))) (fun w hS => r_fieldAddr hm Try.underlying84 rfl ti45 rfl rfl rfl) ?_
      clear hm a; intro a hm
      refine h_take_on 20 [true, true, true, true, true, true, true, true, true, true, true, true, true, true, true, true, true, true, true, true, true, false, false, false, false, false].toArray rfl (by kernel_rfl) (by kernel_rfl) (by kernel_rfl) (fun _ _ _ _ h => h) rfl rfl rfl rfl (beq_iff_eq.2 hc_212) rfl rfl hm (hS.sub (.cons (Mem.le.refl _) (.cons (Mem.le.refl _) (.cons (Mem.le.refl _) (.cons (Mem.le.refl _) (.cons (Mem.le.refl _) (Sub.nil _))))))) (v := .pointer (some ((ad_214.add 0).add 1))) (fun w hS => r_fieldAddr hm Try.underlying45 rfl ti3 rfl rfl rfl) ?_
      clear hm a; intro a hm
      refine h_take_on 21 [true, true, true, true, true, true, true, true, true, true, true, true, true, true, true, true, true, true, true, true, true, true, false, false, false, false].toArray rfl (by kernel_rfl) (by kernel_rfl) (by kernel_rfl) (fun _ _ _ _ h => h) rfl rfl rfl rfl (beq_iff_eq.2 hc_212) rfl rfl hm (hS.sub (.cons (Mem.le.refl _) (.cons (Mem.le.refl _) (.cons (Mem.le.refl _) (.cons (Mem.le.refl _) (.cons (Mem.le.refl _) (Sub.nil _))))))) (v := .int .i64 t_213.e.Seq) (fun w hS => r_load hm rfl (by rw [Addr.add_add]; exact el_one (o := 1) (fun j c h => Mem.cell_le (hS.own 2) (hc_217 j c h)) Try.underlying3 rfl rfl)) ?_
      clear hm a; intro a hm
      refine h_take_on 22 [true, true, true, true, true, true, true, true, true, true, true, true, true, true, true, true, true, true, true, true, true, true, true, false, false, false].toArray rfl (by kernel_rfl) (by kernel_rfl) (by kernel_rfl) (fun _ _ _ _ h => h) rfl rfl rfl rfl (beq_iff_eq.2 hc_212) rfl rfl hm (hS.sub (.cons (Mem.le.refl _) (.cons (Mem.le.refl _) (.cons (Mem.le.refl _) (.cons (Mem.le.refl _) (.cons (Mem.le.refl _) (Sub.nil _))))))) (v := .pointer (some ⟨g_2, 1, none⟩)) (fun w hS => r_fieldAddr hm Try.underlying45 rfl ti3 rfl rfl rfl) ?_
      clear hm a; intro a hm
      refine h_take_on 23 [true, true, true, true, true, true, true, true, true, true, true, true, true, true, true, true, true, true, true, true, true, true, true, true, false, false].toArray rfl (by kernel_rfl) (by kernel_rfl) (by kernel_rfl) (fun _ _ _ _ h => h) rfl rfl rfl rfl (beq_iff_eq.2 hc_212) rfl rfl hm (hS.sub (.cons (Mem.le.refl _) (.cons (Mem.le.refl _) (.cons (Mem.le.refl _) (.cons (Mem.le.refl _) (.cons (Mem.le.refl _) (Sub.nil _))))))) (v := .int .i64 x1.Seq) (fun w hS => r_load hm rfl (hS.load_one (p := 4) rfl Try.underlying3 rfl rfl)) ?_
      clear hm a; intro a hm
      refine h_take_on 24 [true, true, true, true, true, true, true, true, true, true, true, true, true, true, true, true, true, true, true, true, true, true, true, true, true, false].toArray rfl (by kernel_rfl) (by kernel_rfl) (by kernel_rfl) (fun _ _ _ _ h => h) rfl rfl rfl rfl (beq_iff_eq.2 hc_212) rfl rfl hm (hS.sub (.cons (Mem.le.refl _) (.cons (Mem.le.refl _) (.cons (Mem.le.refl _) (.cons (Mem.le.refl _) (.cons (Mem.le.refl _) (Sub.nil _))))))) (v := .bool (t_213.e.Seq == x1.Seq)) (fun w hS => r_cmp (b := (t_213.e.Seq == x1.Seq)) hm rfl rfl (.inl ⟨rfl, rfl⟩)) ?_
      clear hm a; intro a hm
      refine h_take 25 [true, true, true, true, true, true, true, true, true, true, true, true, true, true, true, true, true, true, true, true, true, true, true, true, true, true].toArray rfl (by kernel_rfl) (by kernel_rfl) (by kernel_rfl) (fun _ _ _ _ h => h) rfl rfl rfl rfl hm (hS.sub (.cons (Mem.le.refl _) (.cons (Mem.le.refl _) (.cons (Mem.le.refl _) (.cons (Mem.le.refl _) (.cons (Mem.le.refl _) (Sub.nil _))))))) (v := .bool (t_213.e.Seq == x1.Seq)) (fun w hS => r_pick_t hm rfl (beq_iff_eq.2 hc_212) rfl) ?_
      clear hm a; intro a hm
      refine h_done (by kernel_rfl) ?_
      replace hm : Fr 60 a [(0, .pointer (some ⟨g0, 0, none⟩)), (3, .pointer (some ⟨g_2, 0, none⟩)), (4, .bool false), (5, .int .i64 x_188), (40, .bool (t_213.e.Seq == x1.Seq))] := hm.keep [0, 3, 4, 5, 40]
      replace hS : Sep w0 w_200 [N_187, Mem.one g0 (.cells ([p0_0, p0_1] : List Value).toArray 63 (0, 0)), M0_0, M0_1, Mem.one g_2 (.cells ([.int .i64 x1.Sess, .int .i64 x1.Seq, .int .i64 x1.Cmd.Kind, .int .i64 x1.Cmd.Who, p1_2, p1_3, p1_4] : List Value).toArray 45 (0, 0))] Z := hS
      replace hm : Fr 60 a [(0, .pointer (some ⟨g0, 0, none⟩)), (3, .pointer (some ⟨g_2, 0, none⟩)), (4, .bool false), (5, .int .i64 x_188), (40, .bool (t_213.e.Seq == x1.Seq))] := hm.keep [0, 3, 4, 5, 40]
      exact x_then_n (hJ_j_198 (t_213.e.Seq == x1.Seq) H _ _ ⟨N_187, hm, (Sep.sel hS [0, 1, 2, 3, 4] (by decide)), (Mem.le.refl _)⟩)
    · rw [if_neg hc_212] at H
      refine h_take_off 13 [true, true, true, true, true, true, true, true, true, true, true, true, true, true, false, false, false, false, false, false, false, false, false, false, false, false].toArray rfl (by kernel_rfl) (by kernel_rfl) (by kernel_rfl) (fun _ _ _ _ h => h) rfl rfl rfl rfl (.inl (congrArg Value.bool (beq_eq_false_iff_ne.2 hc_212))) rfl rfl hm (hS.sub (.cons (Mem.le.refl _) (.cons (Mem.le.refl _) (.cons (Mem.le.refl _) (.cons (Mem.le.refl _) (.cons (Mem.le.refl _) (Sub.nil _))))))) ?_
      clear hm a; intro a hm
      refine h_take_off 14 [true, true, true, true, true, true, true, true, true, true, true, true, true, true, true, false, false, false, false, false, false, false, false, false, false, false].toArray rfl (by kernel_rfl) (by kernel_rfl) (by kernel_rfl) (fun _ _ _ _ h => h) rfl rfl rfl rfl (.inl (congrArg Value.bool (beq_eq_false_iff_ne.2 hc_212))) rfl rfl hm (hS.sub (.cons (Mem.le.refl _) (.cons (Mem.le.refl _) (.cons (Mem.le.refl _) (.cons (Mem.le.refl _) (.cons (Mem.le.refl _) (Sub.nil _))))))) ?_
      clear hm a; intro a hm
      refine h_take_off 15 [true, true, true, true, true, true, true, true, true, true, true, true, true, true, true, true, false, false, false, false, false, false, false, false, false, false].toArray rfl (by kernel_rfl) (by kernel_rfl) (by kernel_rfl) (fun _ _ _ _ h => h) rfl rfl rfl rfl (.inl (congrArg Value.bool (beq_eq_false_iff_ne.2 hc_212))) rfl rfl hm (hS.sub (.cons (Mem.le.refl _) (.cons (Mem.le.refl _) (.cons (Mem.le.refl _) (.cons (Mem.le.refl _) (.cons (Mem.le.refl _) (Sub.nil _))))))) ?_
      clear hm a; intro a hm
      refine h_take_off 16 [true, true, true, true, true, true, true, true, true, true, true, true, true, true, true, true, true, false, false, false, false, false, false, false, false, false].toArray rfl (by kernel_rfl) (by kernel_rfl) (by kernel_rfl) (fun _ _ _ _ h => h) rfl rfl rfl rfl (.inl (congrArg Value.bool (beq_eq_false_iff_ne.2 hc_212))) rfl rfl hm (hS.sub (.cons (Mem.le.refl _) (.cons (Mem.le.refl _) (.cons (Mem.le.refl _) (.cons (Mem.le.refl _) (.cons (Mem.le.refl _) (Sub.nil _))))))) ?_
      clear hm a; intro a hm
      refine h_take_off 17 [true, true, true, true, true, true, true, true, true, true, true, true, true, true, true, true, true, true, false, false, false, false, false, false, false, false].toArray rfl (by kernel_rfl) (by kernel_rfl) (by kernel_rfl) (fun _ _ _ _ h => h) rfl rfl rfl rfl (.inl (congrArg Value.bool (beq_eq_false_iff_ne.2 hc_212))) rfl rfl hm (hS.sub (.cons (Mem.le.refl _) (.cons (Mem.le.refl _) (.cons (Mem.le.refl _) (.cons (Mem.le.refl _) (.cons (Mem.le.refl _) (Sub.nil _))))))) ?_
      clear hm a; intro a hm
      refine h_take_off 18 [true, true, true, true, true, true, true, true, true, true, true, true, true, true, true, true, true, true, true, false, false, false, false, false, false, false].toArray rfl (by kernel_rfl) (by kernel_rfl) (by kernel_rfl) (fun _ _ _ _ h => h) rfl rfl rfl rfl (.inl (congrArg Value.bool (beq_eq_false_iff_ne.2 hc_212))) rfl rfl hm (hS.sub (.cons (Mem.le.refl _) (.cons (Mem.le.refl _) (.cons (Mem.le.refl _) (.cons (Mem.le.refl _) (.cons (Mem.le.refl _) (Sub.nil _))))))) ?_
      clear hm a; intro a hm
      refine h_take_off 19 [true, true, true, true, true, true, true, true, true, true, true, true, true, true, true, true, true, true, true, true, false, false, false, false, false, false].toArray rfl (by kernel_rfl) (by kernel_rfl) (by kernel_rfl) (fun _ _ _ _ h => h) rfl rfl rfl rfl (.inl (congrArg Value.bool (beq_eq_false_iff_ne.2 hc_212))) rfl rfl hm (hS.sub (.cons (Mem.le.refl _) (.cons (Mem.le.refl _) (.cons (Mem.le.refl _) (.cons (Mem.le.refl _) (.cons (Mem.le.refl _) (Sub.nil _))))))) ?_
      clear hm a; intro a hm
      refine h_take_off 20 [true, true, true, true, true, true, true, true, true, true, true, true, true, true, true, true, true, true, true, true, true, false, false, false, false, false].toArray rfl (by kernel_rfl) (by kernel_rfl) (by kernel_rfl) (fun _ _ _ _ h => h) rfl rfl rfl rfl (.inl (congrArg Value.bool (beq_eq_false_iff_ne.2 hc_212))) rfl rfl hm (hS.sub (.cons (Mem.le.refl _) (.cons (Mem.le.refl _) (.cons (Mem.le.refl _) (.cons (Mem.le.refl _) (.cons (Mem.le.refl _) (Sub.nil _))))))) ?_
      clear hm a; intro a hm
      refine h_take_off 21 [true, true, true, true, true, true, true, true, true, true, true, true, true, true, true, true, true, true, true, true, true, true, false, false, false, false].toArray rfl (by kernel_rfl) (by kernel_rfl) (by kernel_rfl) (fun _ _ _ _ h => h) rfl rfl rfl rfl (.inl (congrArg Value.bool (beq_eq_false_iff_ne.2 hc_212))) rfl rfl hm (hS.sub (.cons (Mem.le.refl _) (.cons (Mem.le.refl _) (.cons (Mem.le.refl _) (.cons (Mem.le.refl _) (.cons (Mem.le.refl _) (Sub.nil _))))))) ?_
      clear hm a; intro a hm
      refine h_take_off 22 [true, true, true, true, true, true, true, true, true, true, true, true, true, true, true, true, true, true, true, true, true, true, true, false, false, false].toArray rfl (by kernel_rfl) (by kernel_rfl) (by kernel_rfl) (fun _ _ _ _ h => h) rfl rfl rfl rfl (.inl (congrArg Value.bool (beq_eq_false_iff_ne.2 hc_212))) rfl rfl hm (hS.sub (.cons (Mem.le.refl _) (.cons (Mem.le.refl _) (.cons (Mem.le.refl _) (.cons (Mem.le.refl _) (.cons (Mem.le.refl _) (Sub.nil _))))))) ?_
      clear hm a; intro a hm
      refine h_take_off 23 [true, true, true, true, true, true, true, true, true, true, true, true, true, true, true, true, true, true, true, true, true, true, true, true, false, false].toArray rfl (by kernel_rfl) (by kernel_rfl) (by kernel_rfl) (fun _ _ _ _ h => h) rfl rfl rfl rfl (.inl (congrArg Value.bool (beq_eq_false_iff_ne.2 hc_212))) rfl rfl hm (hS.sub (.cons (Mem.le.refl _) (.cons (Mem.le.refl _) (.cons (Mem.le.refl _) (.cons (Mem.le.refl _) (.cons (Mem.le.refl _) (Sub.nil _))))))) ?_
      clear hm a; intro a hm
      refine h_take_off 24 [true, true, true, true, true, true, true, true, true, true, true, true, true, true, true, true, true, true, true, true, true, true, true, true, true, false].toArray rfl (by kernel_rfl) (by kernel_rfl) (by kernel_rfl) (fun _ _ _ _ h => h) rfl rfl rfl rfl (.inl (congrArg Value.bool (beq_eq_false_iff_ne.2 hc_212))) rfl rfl hm (hS.sub (.cons (Mem.le.refl _) (.cons (Mem.le.refl _) (.cons (Mem.le.refl _) (.cons (Mem.le.refl _) (.cons (Mem.le.refl _) (Sub.nil _))))))) ?_
      clear hm a; intro a hm
      refine h_take 25 [true, true, true, true, true, true, true, true, true, true, true, true, true, true, true, true, true, true, true, true, true, true, true, true, true, true].toArray rfl (by kernel_rfl) (by kernel_rfl) (by kernel_rfl) (fun _ _ _ _ h => h) rfl rfl rfl rfl hm (hS.sub (.cons (Mem.le.refl _) (.cons (Mem.le.refl _) (.cons (Mem.le.refl _) (.cons (Mem.le.refl _) (.cons (Mem.le.refl _) (Sub.nil _))))))) (v := .bool false) (fun w hS => r_pick_f hm rfl (beq_eq_false_iff_ne.2 hc_212) rfl) ?_
      clear hm a; intro a hm
      refine h_done (by kernel_rfl) ?_
      replace hm : Fr 60 a [(0, .pointer (some ⟨g0, 0, none⟩)), (3, .pointer (some ⟨g_2, 0, none⟩)), (4, .bool false), (5, .int .i64 x_188), (40, .bool false)] := hm.keep [0, 3, 4, 5, 40]
      replace hS : Sep w0 w_200 [N_187, Mem.one g0 (.cells ([p0_0, p0_1] : List Value).toArray 63 (0, 0)), M0_0, M0_1, Mem.one g_2 (.cells ([.int .i64 x1.Sess, .int .i64 x1.Seq, .int .i64 x1.Cmd.Kind, .int .i64 x1.Cmd.Who, p1_2, p1_3, p1_4] : List Value).toArray 45 (0, 0))] Z := hS
      replace hm : Fr 60 a [(0, .pointer (some ⟨g0, 0, none⟩)), (3, .pointer (some ⟨g_2, 0, none⟩)), (4, .bool false), (5, .int .i64 x_188), (40, .bool false)] := hm.keep [0, 3, 4, 5, 40]
      exact x_then_n (hJ_j_198 false H _ _ ⟨N_187, hm, (Sep.sel hS [0, 1, 2, 3, 4] (by decide)), (Mem.le.refl _)⟩)
  · rw [if_neg hc_192] at H
    refine c_cond_f hm rfl (decide_eq_false hc_192) ?_
    refine wp_exit (x_then_x (x_then_x (x_block_t ?_)))
    replace hS : Sep w0 w_189 [N_187, Mem.one g0 (.cells ([p0_0, p0_1] : List Value).toArray 63 (0, 0)), M0_0, M0_1, Mem.one g_2 (.cells ([.int .i64 x1.Sess, .int .i64 x1.Seq, .int .i64 x1.Cmd.Kind, .int .i64 x1.Cmd.Who, p1_2, p1_3, p1_4] : List Value).toArray 45 (0, 0))] Z := hS
    replace hm : Fr 60 a [(0, .pointer (some ⟨g0, 0, none⟩)), (3, .pointer (some ⟨g_2, 0, none⟩)), (4, .bool false)] := hm.keep [0, 3, 4]
    exact x_then_n (hJ_j_6  H _ _ ⟨N_187, hm, (Sep.sel hS [0, 1, 2, 3, 4] (by decide)), le_187⟩)

set_option maxHeartbeats 4000000 in
set_option maxRecDepth 20000 in
theorem hocketref4_SameEntries.calls (K : Nat) (x0 : List api_Entry) (p0_0 : Value) (x1 : List api_Entry) (p1_1 : Value) (r : Bool) (w0 w : World) (Z A : Mem) (hA : A.le Z) (hS : Sep w0 w [] Z) (hp0_0 : Rd k_api_Entry A p0_0 x0) (hp1_1 : Rd k_api_Entry A p1_1 x1)
    (H : hocketref4_SameEntries.f K x0 x1 = some r) :
    Calls Try.prog 32 [p0_0, p1_1].toArray w (Ret fun v w' => ∃ (N : Mem), v = .bool r ∧ Sep w0 w' [N] Z) := by
  unfold hocketref4_SameEntries.f at H
  refine f_enter _ Try.func32 rfl Try.ntmps32 rfl fun a hm => ?_
  replace hm : Fr 27 a [(0, p0_0), (1, p1_1)] := hm
  replace hS := hS.start
  replace hS : Sep w0 w [Mem.no] Z := hS
  refine wp_seq ?_
  refine wp_region_lit ?_
  refine s_assign hm rfl rfl ?_
  clear hm a; intro a hm
  refine wpList_nil ?_
  replace hm : Fr 27 a [(0, p0_0), (1, p1_1), (4, .bool false)] := hm.keep [0, 1, 4]
  refine x_then_n ?_
  refine c_seq fun KJ_1 hKJ_1 => ?_
  refine wp_seq ?_
  refine wp_region_lit ?_
  refine s_move hm rfl rfl ?_
  clear hm a; intro a hm
  refine s_len hm rfl Try.underlying48 rfl hp0_0 ?_
  clear hm a; intro a hm
  refine s_move hm rfl rfl ?_
  clear hm a; intro a hm
  refine s_len hm rfl Try.underlying48 rfl hp1_1 ?_
  clear hm a; intro a hm
  refine s_cmp (b := ((x0.length : Int) != (x1.length : Int))) hm rfl rfl rfl (.inr (.inl ⟨rfl, rfl⟩)) ?_
  clear hm a; intro a hm
  refine wpList_nil ?_
  replace hm : Fr 27 a [(0, p0_0), (1, p1_1), (4, .bool false), (10, .bool ((x0.length : Int) != (x1.length : Int)))] := hm.keep [0, 1, 4, 10]
  refine x_then_n ?_
  by_cases hc_2 : (x0.length : Int) = (x1.length : Int)
  · rw [if_pos hc_2] at H
    refine c_cond_f hm rfl (bne_eq_false_iff_eq.2 hc_2) ?_
    refine wp_skip ?_
    refine x_then_n (hKJ_1 _ _ ?_)
    refine c_seq fun KJ_3 hKJ_3 => ?_
    refine wp_seq ?_
    refine wp_region_lit ?_
    refine s_assign hm rfl rfl ?_
    clear hm a; intro a hm
    refine wpList_nil ?_
    replace hm : Fr 27 a [(0, p0_0), (1, p1_1), (4, .bool false), (5, .int .i64 0)] := hm.keep [0, 1, 4, 5]
    refine x_then_n ?_
    have hJ_j_6 : hocketref4_SameEntries.J1 K = some r → ∀ (a : Act) (w_5 : World), (∃ (N_4 : Mem), Fr 27 a [(4, .bool false)] ∧ Sep w0 w_5 [N_4] Z ∧ Mem.no.le N_4) → KJ_3 a w_5 := by
      clear H hm hS a
      rintro H a w_5 ⟨N_4, hm, hS, le_4⟩
      unfold hocketref4_SameEntries.J1 at H
      refine hKJ_3 _ _ ?_
      refine wp_seq ?_
      refine wp_region_lit ?_
      refine s_assign hm rfl rfl ?_
      clear hm a; intro a hm
      refine wpList_nil ?_
      replace hm : Fr 27 a [(4, .bool true)] := hm.keep [4]
      refine x_then_n ?_
      refine wp_ret ?_
      obtain rfl := Option.some.inj H
      exact f_ret hm (rs := [.tmp 4]) rfl (.tmp rfl .nil) ⟨_, rfl, N_4, rfl, (Sep.sel hS [0] (by decide))⟩
    clear hKJ_3
    replace hS : Sep w0 w [Mem.no] Z := hS
    replace hm : Fr 27 a [(0, p0_0), (1, p1_1), (4, .bool false), (5, .int .i64 0)] := hm.keep [0, 1, 4, 5]
    refine c_block ?_
    refine c_loop (fun k_9 a w_9 => ∃ (x_8 : Int) (N_7 : Mem), hocketref4_SameEntries.L1 K x0 x1 (fun v => hocketref4_SameEntries.J1 K) k_9 x_8 = some r ∧ Fr 27 a [(0, p0_0), (1, p1_1), (4, .bool false), (5, .int .i64 x_8)] ∧ Sep w0 w_9 [N_7] Z ∧ Mem.no.le N_7) K ⟨0, Mem.no, H, hm, (Sep.sel hS [0] (by decide)), (Mem.le.refl _)⟩ (fun a w h => by obtain ⟨_, _, H, _⟩ := h; cases (show (none : Option (Bool)) = some r from H)) ?_
    clear hm hS a H
    rintro k_9 a w_9 KL_9 hKL_9 ⟨x_8, N_7, H, hm, hS, le_7⟩
    replace H : hocketref4_SameEntries.B1 K x0 x1 (fun v => hocketref4_SameEntries.J1 K) (hocketref4_SameEntries.L1 K x0 x1 (fun v => hocketref4_SameEntries.J1 K) k_9) x_8 = some r := H
    unfold hocketref4_SameEntries.B1 at H
    refine c_seq fun KJ_11 hKJ_11 => ?_
    refine wp_seq ?_
    refine wp_region_lit ?_
    refine s_move hm rfl rfl ?_
    clear hm a; intro a hm
    refine s_move hm rfl rfl ?_
    clear hm a; intro a hm
    refine s_len hm rfl Try.underlying48 rfl hp0_0 ?_
    clear hm a; intro a hm
    refine s_cmp (b := decide (x_8 < (x0.length : Int))) hm rfl rfl rfl (.inr (.inr (.inl ⟨rfl, rfl⟩))) ?_
    clear hm a; intro a hm
    refine wpList_nil ?_
    replace hm : Fr 27 a [(0, p0_0), (1, p1_1), (4, .bool false), (5, .int .i64 x_8), (14, .bool (decide (x_8 < (x0.length : Int))))] := hm.keep [0, 1, 4, 5, 14]
    refine x_then_n ?_
    by_cases hc_12 : x_8 < (x0.length : Int)
    · rw [if_pos hc_12] at H
      refine c_cond_t hm rfl (decide_eq_true hc_12) ?_
      refine wp_skip ?_
      refine x_then_n (hKJ_11 _ _ ?_)
      refine c_seq fun KJ_13 hKJ_13 => ?_
      refine c_block ?_
      refine c_seq fun KJ_14 hKJ_14 => ?_
      refine h_begin (S := fun w => Sep w0 w [N_7] Z) 10 (by kernel_rfl) rfl [false, false, false, false, false, false, false, false, false, false].toArray rfl hS fun w_15 hS => ?_
      replace hS : Sep w0 w_15 [N_7] Z := hS
      refine h_take 0 [true, false, false, false, false, false, false, false, false, false].toArray rfl (by kernel_rfl) (by kernel_rfl) (by kernel_rfl) (fun _ _ _ _ h => h) rfl rfl rfl rfl hm (hS.sub (.cons (Mem.le.refl _) (Sub.nil _))) (v := p0_0) (fun w hS => r_move hm rfl) ?_
      clear hm a; intro a hm
      refine h_take 1 [true, true, false, false, false, false, false, false, false, false].toArray rfl (by kernel_rfl) (by kernel_rfl) (by kernel_rfl) (fun _ _ _ _ h => h) rfl rfl rfl rfl hm (hS.sub (.cons (Mem.le.refl _) (Sub.nil _))) (v := .int .i64 x_8) (fun w hS => r_move hm rfl) ?_
      clear hm a; intro a hm
      obtain ⟨t_16, et_16, H⟩ := Option.bind_eq_some_iff.1 H
      refine h_takeE 2 [true, true, true, false, false, false, false, false, false, false].toArray rfl (by kernel_rfl) (by kernel_rfl) (by kernel_rfl) (fun _ _ _ _ h => h) rfl rfl rfl rfl hm (hS.sub (.cons (Mem.le.refl _) (Sub.nil _))) (f := fun ad => .pointer (some ad)) (r_index hm Try.underlying48 ti45 rfl rfl rfl hp0_0 et_16) ?_
      rintro ad_17 ⟨cs_18, hk_19, hc_20⟩
      obtain ⟨v_21, v_23, v_25, rfl, hr_22, hr_24, hr_26⟩ := k_api_Entry.open' hk_19
      clear hm a; intro a hm
      refine h_take 3 [true, true, true, true, false, false, false, false, false, false].toArray rfl (by kernel_rfl) (by kernel_rfl) (by kernel_rfl) (fun _ _ _ _ h => h) rfl rfl rfl rfl hm (hS.sub (.cons (Mem.le.refl _) (Sub.nil _))) (v := .agg ([.int .i64 t_16.Sess, .int .i64 t_16.Seq, .int .i64 t_16.Cmd.Kind, .int .i64 t_16.Cmd.Who, v_21, v_23, v_25] : List Value).toArray) (fun w hS => r_load hm rfl (el_agg (o := 0) (us := [.int .i64 t_16.Sess, .int .i64 t_16.Seq, .int .i64 t_16.Cmd.Kind, .int .i64 t_16.Cmd.Who, v_21, v_23, v_25]) (fun j c h => Mem.cell_le (hA.trans hS.old) (hc_20 j c h)) Try.underlying45 rfl ti45 rfl rfl)) ?_
      clear hm a; intro a hm
      refine h_take 4 [true, true, true, true, true, false, false, false, false, false].toArray rfl (by kernel_rfl) (by kernel_rfl) (by kernel_rfl) (fun _ _ _ _ h => h) rfl rfl rfl rfl hm (hS.sub (.cons (Mem.le.refl _) (Sub.nil _))) (v := p1_1) (fun w hS => r_move hm rfl) ?_
      clear hm a; intro a hm
      refine h_take 5 [true, true, true, true, true, true, false, false, false, false].toArray rfl (by kernel_rfl) (by kernel_rfl) (by kernel_rfl) (fun _ _ _ _ h => h) rfl rfl rfl rfl hm (hS.sub (.cons (Mem.le.refl _) (Sub.nil _))) (v := .int .i64 x_8) (fun w hS => r_move hm rfl) ?_
      clear hm a; intro a hm
      obtain ⟨t_27, et_27, H⟩ := Option.bind_eq_some_iff.1 H
      refine h_takeE 6 [true, true, true, true, true, true, true, false, false, false].toArray rfl (by kernel_rfl) (by kernel_rfl) (by kernel_rfl) (fun _ _ _ _ h => h) rfl rfl rfl rfl hm (hS.sub (.cons (Mem.le.refl _) (Sub.nil _))) (f := fun ad => .pointer (some ad)) (r_index hm Try.underlying48 ti45 rfl rfl rfl hp1_1 et_27) ?_
      rintro ad_28 ⟨cs_29, hk_30, hc_31⟩
      obtain ⟨v_32, v_34, v_36, rfl, hr_33, hr_35, hr_37⟩ := k_api_Entry.open' hk_30
      clear hm a; intro a hm
      refine h_take 7 [true, true, true, true, true, true, true, true, false, false].toArray rfl (by kernel_rfl) (by kernel_rfl) (by kernel_rfl) (fun _ _ _ _ h => h) rfl rfl rfl rfl hm (hS.sub (.cons (Mem.le.refl _) (Sub.nil _))) (v := .agg ([.int .i64 t_27.Sess, .int .i64 t_27.Seq, .int .i64 t_27.Cmd.Kind, .int .i64 t_27.Cmd.Who, v_32, v_34, v_36] : List Value).toArray) (fun w hS => r_load hm rfl (el_agg (o := 0) (us := [.int .i64 t_27.Sess, .int .i64 t_27.Seq, .int .i64 t_27.Cmd.Kind, .int .i64 t_27.Cmd.Who, v_32, v_34, v_36]) (fun j c h => Mem.cell_le (hA.trans hS.old) (hc_31 j c h)) Try.underlying45 rfl ti45 rfl rfl)) ?_
      clear hm a; intro a hm
      refine h_event 8 [true, true, true, true, true, true, true, true, true, false].toArray rfl (by kernel_rfl) rfl ?_
      obtain ⟨t_38, et_38, H⟩ := Option.bind_eq_some_iff.1 H
      refine s_call hm rfl Try.call29 rfl (hocketref4_SameEntry.calls t_16 _ _ _ t_27 _ _ _ t_38 w0 _ _ _ (Mem.le.refl _) (hS.enter [] (by decide)) (hr_22.mono (hA.trans (hS.le_zed []))) (hr_24.mono (hA.trans (hS.le_zed []))) (hr_26.mono (hA.trans (hS.le_zed []))) (hr_33.mono (hA.trans (hS.le_zed []))) (hr_35.mono (hA.trans (hS.le_zed []))) (hr_37.mono (hA.trans (hS.le_zed []))) et_38) ?_
      rintro _ w_39 ⟨N_40, rfl, hS'⟩
      clear hm a; intro a hm
      obtain ⟨N_41, hS'', le_41, ln_41⟩ := hS.call [] (by decide) rfl (l' := []) (ow := []) rfl hS'
      replace hS : Sep w0 w_39 [N_41] Z := hS''
      clear hS' hS''
      refine wpList_nil ?_
      refine x_then_n ⟨(hS.sub (.cons le_41 (Sub.nil _))), ?_⟩
      refine h_take 9 [true, true, true, true, true, true, true, true, true, true].toArray rfl (by kernel_rfl) (by kernel_rfl) (by kernel_rfl) (fun _ _ _ _ h => h) rfl rfl rfl rfl hm (hS.sub (.cons le_41 (Sub.nil _))) (v := .bool (!t_38)) (fun w hS => r_not hm rfl) ?_
      clear hm a; intro a hm
      refine h_done (by kernel_rfl) ?_
      replace hm : Fr 27 a [(0, p0_0), (1, p1_1), (4, .bool false), (5, .int .i64 x_8), (26, .bool (!t_38))] := hm.keep [0, 1, 4, 5, 26]
      refine x_then_n (hKJ_14 _ _ ?_)
      by_cases hc_42 : t_38 = true
      · rw [if_pos hc_42] at H
        refine c_cond_f hm rfl (nf hc_42) ?_
        refine wp_skip ?_
        refine x_block_n ?_
        refine x_then_n (hKJ_13 _ _ ?_)
        refine wp_region_lit ?_
        refine s_move hm rfl rfl ?_
        clear hm a; intro a hm
        refine s_arith (r := w64 (x_8 + 1)) hm rfl rfl rfl (.inl ⟨rfl, rfl⟩) ?_
        clear hm a; intro a hm
        refine s_assign hm rfl rfl ?_
        clear hm a; intro a hm
        refine wpList_nil ?_
        replace hm : Fr 27 a [(0, p0_0), (1, p1_1), (4, .bool false), (5, .int .i64 (w64 (x_8 + 1)))] := hm.keep [0, 1, 4, 5]
        refine x_then_n (hKL_9 _ _ ?_)
        replace hS : Sep w0 w_39 [N_41] Z := hS
        replace hm : Fr 27 a [(0, p0_0), (1, p1_1), (4, .bool false), (5, .int .i64 (w64 (x_8 + 1)))] := hm.keep [0, 1, 4, 5]
        exact ⟨w64 (x_8 + 1), N_41, H, hm, (Sep.sel hS [0] (by decide)), (le_7.trans le_41)⟩
      · rw [if_neg hc_42] at H
        refine c_cond_t hm rfl (nt (Bool.eq_false_iff.2 hc_42)) ?_
        refine wp_seq ?_
        refine wp_region_lit ?_
        refine s_assign hm rfl rfl ?_
        clear hm a; intro a hm
        refine wpList_nil ?_
        replace hm : Fr 27 a [(0, p0_0), (1, p1_1), (4, .bool false), (5, .int .i64 x_8)] := hm.keep [0, 1, 4, 5]
        refine x_then_n ?_
        refine wp_ret (x_block_r (x_then_r (x_then_r (x_block_r (x_then_r ?_)))))
        obtain rfl := Option.some.inj H
        exact f_ret hm (rs := [.tmp 4]) rfl (.tmp rfl .nil) ⟨_, rfl, N_41, rfl, (Sep.sel hS [0] (by decide))⟩
    · rw [if_neg hc_12] at H
      refine c_cond_f hm rfl (decide_eq_false hc_12) ?_
      refine wp_exit (x_then_x (x_then_x (x_block_t ?_)))
      replace hS : Sep w0 w_9 [N_7] Z := hS
      replace hm : Fr 27 a [(4, .bool false)] := hm.keep [4]
      exact x_then_n (hJ_j_6  H _ _ ⟨N_7, hm, (Sep.sel hS [0] (by decide)), le_7⟩)
  · rw [if_neg hc_2] at H
    refine c_cond_t hm rfl (bne_iff_ne.2 hc_2) ?_
    refine wp_seq ?_
    refine wp_region_lit ?_
    refine s_assign hm rfl rfl ?_
    clear hm a; intro a hm
    refine wpList_nil ?_
    replace hm : Fr 27 a [(0, p0_0), (1, p1_1), (4, .bool false)] := hm.keep [0, 1, 4]
    refine x_then_n ?_
    refine wp_ret (x_then_r ?_)
    obtain rfl := Option.some.inj H
    exact f_ret hm (rs := [.tmp 4]) rfl (.tmp rfl .nil) ⟨_, rfl, Mem.no, rfl, (Sep.sel hS [0] (by decide))⟩

set_option maxHeartbeats 4000000 in
set_option maxRecDepth 20000 in
theorem hocketref15_Calls_Next.calls (K : Nat) (g0 : Nat) (x0_l : List hocketref15_call) (p0_0 : Value) (M0_0 : Mem) (x0_r : List api_Reply) (p0_1 : Value) (M0_1 : Mem) (x1 : Int) (r : (List api_Entry) × (List hocketref15_call) × (List api_Reply)) (w0 w : World) (Z A : Mem) (hA : A.le Z) (hS : Sep w0 w [Mem.one g0 (.cells ([p0_0, p0_1] : List Value).toArray 63 (0, 0)), M0_0, M0_1] Z) (hp0_0 : Own k_hocketref15_call 84 M0_0 A p0_0 x0_l) (hp0_1 : Own k_api_Reply 56 M0_1 A p0_1 x0_r)
    (H : hocketref15_Calls_Next.f K x0_l x0_r x1 = some r) :
    Calls Try.prog 33 [.pointer (some ⟨g0, 0, none⟩), .int .i64 x1].toArray w (Ret fun v w' => ∃ (u0 : Value) (u1 : Value) (u2 : Value) (N : Mem) (M0 : Mem) (M100 : Mem) (M101 : Mem), v = u0 ∧ Sep w0 w' [N, Mem.one g0 (.cells ([u1, u2] : List Value).toArray 63 (0, 0)), M100, M101, M0] Z ∧ Own k_api_Entry 45 M0 (A.un N) u0 r.1 ∧ Own k_hocketref15_call 84 M100 (A.un N) u1 r.2.1 ∧ Own k_api_Reply 56 M101 (A.un N) u2 r.2.2) := by
  unfold hocketref15_Calls_Next.f at H
  refine f_enter _ Try.func33 rfl Try.ntmps33 rfl fun a hm => ?_
  replace hm : Fr 50 a [(0, .pointer (some ⟨g0, 0, none⟩)), (1, .int .i64 x1)] := hm
  replace hS := hS.start
  replace hS : Sep w0 w [Mem.no, Mem.one g0 (.cells ([p0_0, p0_1] : List Value).toArray 63 (0, 0)), M0_0, M0_1] Z := hS
  refine wp_seq ?_
  refine wp_region_lit ?_
  refine s_assign hm rfl rfl ?_
  clear hm a; intro a hm
  refine wpList_nil ?_
  replace hm : Fr 50 a [(0, .pointer (some ⟨g0, 0, none⟩)), (1, .int .i64 x1), (4, .slice none 0 0)] := hm.keep [0, 1, 4]
  refine x_then_n ?_
  refine wp_seq ?_
  refine wp_region_lit ?_
  refine s_assign hm rfl rfl ?_
  clear hm a; intro a hm
  refine wpList_nil ?_
  replace hm : Fr 50 a [(0, .pointer (some ⟨g0, 0, none⟩)), (1, .int .i64 x1), (4, .slice none 0 0), (5, .slice none 0 0)] := hm.keep [0, 1, 4, 5]
  refine x_then_n ?_
  refine c_seq fun KJ_1 hKJ_1 => ?_
  refine wp_seq ?_
  refine wp_region_lit ?_
  refine s_assign hm rfl rfl ?_
  clear hm a; intro a hm
  refine wpList_nil ?_
  replace hm : Fr 50 a [(0, .pointer (some ⟨g0, 0, none⟩)), (1, .int .i64 x1), (4, .slice none 0 0), (5, .slice none 0 0), (6, .int .i64 0)] := hm.keep [0, 1, 4, 5, 6]
  refine x_then_n ?_
  have hJ_j_14 : ∀ (x_3 : List api_Entry), ∀ (x_8 : List hocketref15_call), hocketref15_Calls_Next.J1 K x0_r x_3 x_8 = some r → ∀ (a : Act) (w_13 : World), (∃ (v_6 : Value) (v_11 : Value) (N_2 : Mem) (M_4 : Mem) (M_9 : Mem), Fr 50 a [(4, .slice none 0 0), (5, v_6)] ∧ Sep w0 w_13 [N_2, Mem.one g0 (.cells ([v_11, p0_1] : List Value).toArray 63 (0, 0)), M_9, M0_1, M_4] Z ∧ Mem.no.le N_2 ∧ Own k_api_Entry 45 M_4 (A.un N_2) v_6 x_3 ∧ Own k_hocketref15_call 84 M_9 (A.un N_2) v_11 x_8) → KJ_1 a w_13 := by
    clear H hm hS a
    rintro x_3 x_8 H a w_13 ⟨v_6, v_11, N_2, M_4, M_9, hm, hS, le_2, ho_7, ho_12⟩
    unfold hocketref15_Calls_Next.J1 at H
    refine hKJ_1 _ _ ?_
    refine wp_seq ?_
    refine wp_region_lit ?_
    refine s_move hm rfl rfl ?_
    clear hm a; intro a hm
    refine s_assign hm rfl rfl ?_
    clear hm a; intro a hm
    refine wpList_nil ?_
    replace hm : Fr 50 a [(4, v_6)] := hm.keep [4]
    refine x_then_n ?_
    refine wp_ret ?_
    obtain rfl := Option.some.inj H
    exact f_ret hm (rs := [.tmp 4]) rfl (.tmp rfl .nil) ⟨_, rfl, v_6, v_11, p0_1, N_2, M_4, M_9, M0_1, rfl, (Sep.sel hS [0, 1, 2, 3, 4] (by decide)), (ho_7.mono (Mem.un_left (Mem.le.refl _))), (ho_12.mono (Mem.un_left (Mem.le.refl _))), (hp0_1.mono (Mem.le_un _ _))⟩
  clear hKJ_1
  have hS' := hS.room
  replace hS : Sep w0 w [Mem.no, Mem.one g0 (.cells ([p0_0, p0_1] : List Value).toArray 63 (0, 0)), M0_0, M0_1, Mem.no] Z := hS'
  clear hS'
  replace hS : Sep w0 w [Mem.no, Mem.one g0 (.cells ([p0_0, p0_1] : List Value).toArray 63 (0, 0)), M0_0, M0_1, Mem.no] Z := hS
  replace hm : Fr 50 a [(0, .pointer (some ⟨g0, 0, none⟩)), (1, .int .i64 x1), (4, .slice none 0 0), (5, .slice none 0 0), (6, .int .i64 0)] := hm.keep [0, 1, 4, 5, 6]
  refine c_block ?_
  refine c_loop (fun k_27 a w_27 => ∃ (x_16 : List api_Entry) (x_21 : Int) (x_22 : List hocketref15_call) (v_19 : Value) (v_25 : Value) (N_15 : Mem) (M_17 : Mem) (M_23 : Mem), hocketref15_Calls_Next.L1 K x1 (fun v => hocketref15_Calls_Next.J1 K x0_r v.1 v.2) k_27 (x_16, x_21, x_22) = some r ∧ Fr 50 a [(0, .pointer (some ⟨g0, 0, none⟩)), (1, .int .i64 x1), (4, .slice none 0 0), (5, v_19), (6, .int .i64 x_21)] ∧ Sep w0 w_27 [N_15, Mem.one g0 (.cells ([v_25, p0_1] : List Value).toArray 63 (0, 0)), M_23, M0_1, M_17] Z ∧ Mem.no.le N_15 ∧ Own k_api_Entry 45 M_17 (A.un N_15) v_19 x_16 ∧ Own k_hocketref15_call 84 M_23 (A.un N_15) v_25 x_22) K ⟨([] : List api_Entry), 0, x0_l, .slice none 0 0, p0_0, Mem.no, Mem.no, M0_0, H, hm, (Sep.sel hS [0, 1, 2, 3, 4] (by decide)), (Mem.le.refl _), ((Own.nil k_api_Entry 45 Mem.no).mono ((Mem.le.refl _).trans (hS.sndA hA))), (hp0_0.mono (Mem.le_un _ _))⟩ (fun a w h => by obtain ⟨_, _, _, _, _, _, _, _, H, _⟩ := h; cases (show (none : Option ((List api_Entry) × (List hocketref15_call) × (List api_Reply))) = some r from H)) ?_
  clear hm hS a H
  rintro k_27 a w_27 KL_27 hKL_27 ⟨x_16, x_21, x_22, v_19, v_25, N_15, M_17, M_23, H, hm, hS, le_15, ho_20, ho_26⟩
  replace H : hocketref15_Calls_Next.B1 K x1 (fun v => hocketref15_Calls_Next.J1 K x0_r v.1 v.2) (hocketref15_Calls_Next.L1 K x1 (fun v => hocketref15_Calls_Next.J1 K x0_r v.1 v.2) k_27) x_16 x_21 x_22 = some r := H
  unfold hocketref15_Calls_Next.B1 at H
  refine c_seq fun KJ_30 hKJ_30 => ?_
  refine c_seq fun KJ_31 hKJ_31 => ?_
  have hJ_j_35 : ∀ (x_33 : Bool), hocketref15_Calls_Next.J2 K x_22 x_21 (hocketref15_Calls_Next.L1 K x1 (fun v => hocketref15_Calls_Next.J1 K x0_r v.1 v.2) k_27) x_16 (fun v => hocketref15_Calls_Next.J1 K x0_r v.1 v.2) x_33 = some r → ∀ (a : Act) (w_34 : World), (∃ (N_32 : Mem), Fr 50 a [(0, .pointer (some ⟨g0, 0, none⟩)), (1, .int .i64 x1), (4, .slice none 0 0), (5, v_19), (6, .int .i64 x_21), (19, .bool x_33)] ∧ Sep w0 w_34 [N_32, Mem.one g0 (.cells ([v_25, p0_1] : List Value).toArray 63 (0, 0)), M_23, M0_1, M_17] Z ∧ N_15.le N_32) → KJ_31 a w_34 := by
    clear H hm hS a
    rintro x_33 H a w_34 ⟨N_32, hm, hS, le_32⟩
    unfold hocketref15_Calls_Next.J2 at H
    refine hKJ_31 _ _ ?_
    by_cases hc_36 : x_33 = true
    · rw [if_pos hc_36] at H
      refine c_cond_t hm rfl hc_36 ?_
      refine wp_skip ?_
      refine x_then_n (hKJ_30 _ _ ?_)
      refine c_seq fun KJ_37 hKJ_37 => ?_
      refine c_block ?_
      refine wp_seq ?_
      refine wp_region_lit ?_
      refine s_move hm rfl rfl ?_
      clear hm a; intro a hm
      refine s_nilCheck hm rfl rfl ?_
      clear hm a; intro a hm
      refine s_fieldAddr hm rfl Try.underlying63 rfl ti61 rfl rfl ?_
      clear hm a; intro a hm
      refine s_load hm rfl rfl (hS.load_one (p := 1) rfl Try.underlying61 rfl rfl) ?_
      clear hm a; intro a hm
      refine s_move hm rfl rfl ?_
      clear hm a; intro a hm
      obtain ⟨t_38, et_38, H⟩ := Option.bind_eq_some_iff.1 H
      refine v_indexO hm rfl Try.underlying61 ti84 rfl rfl rfl ho_26 (hS.own 2) et_38 ?_
      intro ad_39 cs_40 hk_41 hc_42
      obtain ⟨v_43, v_45, v_47, rfl, hr_44, hr_46, hr_48⟩ := k_hocketref15_call.open' hk_41
      clear hm a; intro a hm
      refine s_fieldAddr hm rfl Try.underlying84 rfl ti4 rfl rfl ?_
      clear hm a; intro a hm
      refine s_load hm rfl rfl (el_one (o := 7) hc_42 Try.underlying4 rfl rfl) ?_
      clear hm a; intro a hm
      refine s_not hm rfl rfl ?_
      clear hm a; intro a hm
      refine wpList_nil ?_
      replace hm : Fr 50 a [(0, .pointer (some ⟨g0, 0, none⟩)), (1, .int .i64 x1), (4, .slice none 0 0), (5, v_19), (6, .int .i64 x_21), (30, .bool (!t_38.sent))] := hm.keep [0, 1, 4, 5, 6, 30]
      refine x_then_n ?_
      by_cases hc_49 : t_38.sent = true
      · rw [if_pos hc_49] at H
        refine c_cond_f hm rfl (nf hc_49) ?_
        refine wp_skip ?_
        refine x_block_n ?_
        refine x_then_n (hKJ_37 _ _ ?_)
        refine wp_region_lit ?_
        refine s_move hm rfl rfl ?_
        clear hm a; intro a hm
        refine s_arith (r := w64 (x_21 + 1)) hm rfl rfl rfl (.inl ⟨rfl, rfl⟩) ?_
        clear hm a; intro a hm
        refine s_assign hm rfl rfl ?_
        clear hm a; intro a hm
        refine wpList_nil ?_
        replace hm : Fr 50 a [(0, .pointer (some ⟨g0, 0, none⟩)), (1, .int .i64 x1), (4, .slice none 0 0), (5, v_19), (6, .int .i64 (w64 (x_21 + 1)))] := hm.keep [0, 1, 4, 5, 6]
        refine x_then_n (hKL_27 _ _ ?_)
        replace hS : Sep w0 w_34 [N_32, Mem.one g0 (.cells ([v_25, p0_1] : List Value).toArray 63 (0, 0)), M_23, M0_1, M_17] Z := hS
        replace hm : Fr 50 a [(0, .pointer (some ⟨g0, 0, none⟩)), (1, .int .i64 x1), (4, .slice none 0 0), (5, v_19), (6, .int .i64 (w64 (x_21 + 1)))] := hm.keep [0, 1, 4, 5, 6]
        exact ⟨x_16, w64 (x_21 + 1), x_22, v_19, v_25, N_32, M_17, M_23, H, hm, (Sep.sel hS [0, 1, 2, 3, 4] (by decide)), (le_15.trans le_32), (ho_20.mono (Mem.un_left le_32)), (ho_26.mono (Mem.un_left le_32))⟩
      · rw [if_neg hc_49] at H
        refine c_cond_t hm rfl (nt (Bool.eq_false_iff.2 hc_49)) ?_
        refine wp_seq ?_
        refine wp_region_lit ?_
        refine s_move hm rfl rfl ?_
        clear hm a; intro a hm
        refine s_nilCheck hm rfl rfl ?_
        clear hm a; intro a hm
        refine s_fieldAddr hm rfl Try.underlying63 rfl ti61 rfl rfl ?_
        clear hm a; intro a hm
        refine s_load hm rfl rfl (hS.load_one (p := 1) rfl Try.underlying61 rfl rfl) ?_
        clear hm a; intro a hm
        refine s_move hm rfl rfl ?_
        clear hm a; intro a hm
        obtain ⟨t_50, et_50, H⟩ := Option.bind_eq_some_iff.1 H
        refine s_indexOwn hm rfl Try.underlying61 ti84 rfl rfl rfl ho_26 et_50 ?_
        intro g_51 cur_52 hM_53
        clear hm a; intro a hm
        refine s_fieldAddr hm rfl Try.underlying84 rfl ti4 rfl rfl ?_
        clear hm a; intro a hm
        obtain ⟨w_54, M_55, hs', hS', ho_56⟩ := Own.stored (P := Try.prog) (p := 2) (t := 4) (o := 7) (nv := .bool true) (vs := [.bool true]) (u' := (⟨t_50.e, true⟩ : hocketref15_call)) hS rfl (ho_26.mono (Mem.un_left le_32)) hM_53 et_50 ti4 rfl rfl rfl (by intro u hu; simp only [List.mem_cons, List.not_mem_nil, or_false] at hu; rcases hu with rfl <;> rfl) (by intro cs hk; obtain ⟨v_57, v_58, v_59, rfl, hr_60, hr_61, hr_62⟩ := k_hocketref15_call.open' hk; exact k_hocketref15_call.mk' hr_60 hr_61 hr_62)
        refine s_store hm rfl rfl hs' ?_
        replace hS : Sep w0 w_54 [N_32, Mem.one g0 (.cells ([v_25, p0_1] : List Value).toArray 63 (0, 0)), M_55, M0_1, M_17] Z := hS'
        clear hs' hS'
        refine wpList_nil ?_
        replace hm : Fr 50 a [(0, .pointer (some ⟨g0, 0, none⟩)), (1, .int .i64 x1), (4, .slice none 0 0), (5, v_19), (6, .int .i64 x_21)] := hm.keep [0, 1, 4, 5, 6]
        refine x_then_n ?_
        refine wp_region_lit ?_
        refine s_move hm rfl rfl ?_
        clear hm a; intro a hm
        refine s_move hm rfl rfl ?_
        clear hm a; intro a hm
        refine s_nilCheck hm rfl rfl ?_
        clear hm a; intro a hm
        refine s_fieldAddr hm rfl Try.underlying63 rfl ti61 rfl rfl ?_
        clear hm a; intro a hm
        refine s_load hm rfl rfl (hS.load_one (p := 1) rfl Try.underlying61 rfl rfl) ?_
        clear hm a; intro a hm
        refine s_move hm rfl rfl ?_
        clear hm a; intro a hm
        obtain ⟨t_63, et_63, H⟩ := Option.bind_eq_some_iff.1 H
        refine v_indexO hm rfl Try.underlying61 ti84 rfl rfl rfl ho_56 (hS.own 2) et_63 ?_
        intro ad_64 cs_65 hk_66 hc_67
        obtain ⟨v_68, v_70, v_72, rfl, hr_69, hr_71, hr_73⟩ := k_hocketref15_call.open' hk_66
        clear hm a; intro a hm
        refine s_fieldAddr hm rfl Try.underlying84 rfl ti45 rfl rfl ?_
        clear hm a; intro a hm
        refine s_load hm rfl rfl (el_agg (o := 0) (us := [.int .i64 t_63.e.Sess, .int .i64 t_63.e.Seq, .int .i64 t_63.e.Cmd.Kind, .int .i64 t_63.e.Cmd.Who, v_68, v_70, v_72]) hc_67 Try.underlying45 rfl ti45 rfl rfl) ?_
        clear hm a; intro a hm
        have hq_78 : Reps k_api_Entry (A.un N_32) ([t_63.e] : List api_Entry) _ := ((Reps.one (d := k_api_Entry) (x := t_63.e) (k_api_Entry.mk' hr_69 hr_71 hr_73)).append (Reps.nil k_api_Entry _))
        refine s_buildSlice hm rfl Try.underlying48 ti45 rfl rfl rfl (.cons rfl .nil) rfl rfl rfl hS hq_78 rfl ?_
        intro w_74 v_75 M_76 hS' ho_77
        clear hm a; intro a hm
        replace hS : Sep w0 w_74 [N_32, Mem.one g0 (.cells ([v_25, p0_1] : List Value).toArray 63 (0, 0)), M_55, M0_1, M_17, M_76] Z := hS'
        clear hS' hq_78
        obtain ⟨t_80, et_80, H⟩ := Option.bind_eq_some_iff.1 H
        refine s_append (J := (A.un N_32)) (I' := (A.un N_32)) (p := 4) 1353245080339 hm rfl rfl rfl Try.underlying48 ti45 rfl rfl rfl rfl hS rfl ho_20 (ho_77.src (hS.own 5)) (Mem.un_left le_32) (Mem.un_left (Mem.le.refl _)) et_80 ?_
        intro w_81 v_82 M_83 hS' ho_84
        clear hm a; intro a hm
        replace hS : Sep w0 w_81 [N_32, Mem.one g0 (.cells ([v_25, p0_1] : List Value).toArray 63 (0, 0)), M_55, M0_1, M_83, M_76] Z := hS'
        clear hS'
        refine s_assign hm rfl rfl ?_
        clear hm a; intro a hm
        refine wpList_nil ?_
        replace hm : Fr 50 a [(0, .pointer (some ⟨g0, 0, none⟩)), (1, .int .i64 x1), (4, .slice none 0 0), (5, v_82), (6, .int .i64 x_21)] := hm.keep [0, 1, 4, 5, 6]
        refine x_block_n ?_
        refine x_then_n (hKJ_37 _ _ ?_)
        refine wp_region_lit ?_
        refine s_move hm rfl rfl ?_
        clear hm a; intro a hm
        refine s_arith (r := w64 (x_21 + 1)) hm rfl rfl rfl (.inl ⟨rfl, rfl⟩) ?_
        clear hm a; intro a hm
        refine s_assign hm rfl rfl ?_
        clear hm a; intro a hm
        refine wpList_nil ?_
        replace hm : Fr 50 a [(0, .pointer (some ⟨g0, 0, none⟩)), (1, .int .i64 x1), (4, .slice none 0 0), (5, v_82), (6, .int .i64 (w64 (x_21 + 1)))] := hm.keep [0, 1, 4, 5, 6]
        refine x_then_n (hKL_27 _ _ ?_)
        replace hS : Sep w0 w_81 [N_32, Mem.one g0 (.cells ([v_25, p0_1] : List Value).toArray 63 (0, 0)), M_55, M0_1, M_83, M_76] Z := hS
        replace hm : Fr 50 a [(0, .pointer (some ⟨g0, 0, none⟩)), (1, .int .i64 x1), (4, .slice none 0 0), (5, v_82), (6, .int .i64 (w64 (x_21 + 1)))] := hm.keep [0, 1, 4, 5, 6]
        exact ⟨t_80, w64 (x_21 + 1), (x_22.set (x_21).toNat (⟨t_50.e, true⟩ : hocketref15_call)), v_82, v_25, N_32, M_83, M_55, H, hm, (Sep.sel hS [0, 1, 2, 3, 4] (by decide)), (le_15.trans le_32), (ho_84.mono (Mem.un_left (Mem.le.refl _))), (ho_56.mono (Mem.un_left (Mem.le.refl _)))⟩
    · rw [if_neg hc_36] at H
      refine c_cond_f hm rfl (Bool.eq_false_iff.2 hc_36) ?_
      refine wp_exit (x_then_x (x_then_x (x_block_t ?_)))
      replace hS : Sep w0 w_34 [N_32, Mem.one g0 (.cells ([v_25, p0_1] : List Value).toArray 63 (0, 0)), M_23, M0_1, M_17] Z := hS
      replace hm : Fr 50 a [(4, .slice none 0 0), (5, v_19)] := hm.keep [4, 5]
      exact x_then_n (hJ_j_14 x_16 x_22 H _ _ ⟨v_19, v_25, N_32, M_17, M_23, hm, (Sep.sel hS [0, 1, 2, 3, 4] (by decide)), (le_15.trans le_32), (ho_20.mono (Mem.un_left le_32)), (ho_26.mono (Mem.un_left le_32))⟩)
  clear hKJ_31
  refine wp_region_lit ?_
  refine s_move hm rfl rfl ?_
  clear hm a; intro a hm
  refine s_move hm rfl rfl ?_
  clear hm a; intro a hm
  refine s_nilCheck hm rfl rfl ?_
  clear hm a; intro a hm
  refine s_fieldAddr hm rfl Try.underlying63 rfl ti61 rfl rfl ?_
  clear hm a; intro a hm
  refine s_load hm rfl rfl (hS.load_one (p := 1) rfl Try.underlying61 rfl rfl) ?_
  clear hm a; intro a hm
  refine s_lenO hm rfl Try.underlying61 rfl ho_26 ?_
  clear hm a; intro a hm
  refine s_cmp (b := decide (x_21 < (x_22.length : Int))) hm rfl rfl rfl (.inr (.inr (.inl ⟨rfl, rfl⟩))) ?_
  clear hm a; intro a hm
  refine s_move hm rfl rfl ?_
  clear hm a; intro a hm
  by_cases hc_86 : x_21 < (x_22.length : Int)
  · rw [if_pos hc_86] at H
    refine s_on hm rfl rfl (decide_eq_true hc_86) ?_
    refine s_move hm rfl rfl ?_
    clear hm a; intro a hm
    refine s_on hm rfl rfl (decide_eq_true hc_86) ?_
    refine s_lenO hm rfl Try.underlying48 rfl ho_20 ?_
    clear hm a; intro a hm
    refine s_on hm rfl rfl (decide_eq_true hc_86) ?_
    refine s_move hm rfl rfl ?_
    clear hm a; intro a hm
    refine s_on hm rfl rfl (decide_eq_true hc_86) ?_
    refine s_cmp (b := decide ((x_16.length : Int) < x1)) hm rfl rfl rfl (.inr (.inr (.inl ⟨rfl, rfl⟩))) ?_
    clear hm a; intro a hm
    refine s_pick_t hm rfl rfl (decide_eq_true hc_86) rfl ?_
    clear hm a; intro a hm
    refine wpList_nil ?_
    replace hm : Fr 50 a [(0, .pointer (some ⟨g0, 0, none⟩)), (1, .int .i64 x1), (4, .slice none 0 0), (5, v_19), (6, .int .i64 x_21), (19, .bool (decide ((x_16.length : Int) < x1)))] := hm.keep [0, 1, 4, 5, 6, 19]
    replace hS : Sep w0 w_27 [N_15, Mem.one g0 (.cells ([v_25, p0_1] : List Value).toArray 63 (0, 0)), M_23, M0_1, M_17] Z := hS
    replace hm : Fr 50 a [(0, .pointer (some ⟨g0, 0, none⟩)), (1, .int .i64 x1), (4, .slice none 0 0), (5, v_19), (6, .int .i64 x_21), (19, .bool (decide ((x_16.length : Int) < x1)))] := hm.keep [0, 1, 4, 5, 6, 19]
    exact x_then_n (hJ_j_35 (decide ((x_16.length : Int) < x1)) H _ _ ⟨N_15, hm, (Sep.sel hS [0, 1, 2, 3, 4] (by decide)), (Mem.le.refl _)⟩)
  · rw [if_neg hc_86] at H
    refine s_off hm rfl rfl rfl (decide_eq_false hc_86) ?_
    clear hm a; intro a hm
    refine s_off hm rfl rfl rfl (decide_eq_false hc_86) ?_
    clear hm a; intro a hm
    refine s_off hm rfl rfl rfl (decide_eq_false hc_86) ?_
    clear hm a; intro a hm
    refine s_off hm rfl rfl rfl (decide_eq_false hc_86) ?_
    clear hm a; intro a hm
    refine s_pick_f hm rfl rfl (decide_eq_false hc_86) rfl ?_
    clear hm a; intro a hm
    refine wpList_nil ?_
    replace hm : Fr 50 a [(0, .pointer (some ⟨g0, 0, none⟩)), (1, .int .i64 x1), (4, .slice none 0 0), (5, v_19), (6, .int .i64 x_21), (19, .bool false)] := hm.keep [0, 1, 4, 5, 6, 19]
    replace hS : Sep w0 w_27 [N_15, Mem.one g0 (.cells ([v_25, p0_1] : List Value).toArray 63 (0, 0)), M_23, M0_1, M_17] Z := hS
    replace hm : Fr 50 a [(0, .pointer (some ⟨g0, 0, none⟩)), (1, .int .i64 x1), (4, .slice none 0 0), (5, v_19), (6, .int .i64 x_21), (19, .bool false)] := hm.keep [0, 1, 4, 5, 6, 19]
    exact x_then_n (hJ_j_35 false H _ _ ⟨N_15, hm, (Sep.sel hS [0, 1, 2, 3, 4] (by decide)), (Mem.le.refl _)⟩)


end Go.Proofs
