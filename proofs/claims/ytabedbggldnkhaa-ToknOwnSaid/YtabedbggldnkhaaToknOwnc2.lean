/- What the calls do: each function once. -/
import Derived.Test.YtabedbggldnkhaaToknOwnc1
namespace Go.Proofs
open Go.Gp
set_option linter.unusedVariables false
set_option maxHeartbeats 4000000 in
set_option maxRecDepth 20000 in
theorem hocketref11_Same.calls (K : Nat) (x0 : api_Msg) (p0_0 : Value) (p0_1 : Value) (p0_2 : Value) (p0_3 : Value) (p0_4 : Value) (p0_5 : Value) (x1 : api_Msg) (p1_6 : Value) (p1_7 : Value) (p1_8 : Value) (p1_9 : Value) (p1_10 : Value) (p1_11 : Value) (r : Bool) (w0 w : World) (Z A : Mem) (hA : A.le Z) (hS : Sep w0 w [] Z) (hp0_0 : Rd Kd.u8 A p0_0 x0.Data) (hp0_1 : Rd (Kd.int .i64) A p0_1 x0.Have) (hp0_2 : Rd (Kd.int .i64) A p0_2 x0.Need) (hp0_3 : Rd Kd.u8 A p0_3 x0.Entry.Cmd.Key) (hp0_4 : Rd Kd.u8 A p0_4 x0.Entry.Cmd.Val) (hp0_5 : Rd Kd.u8 A p0_5 x0.Entry.Cmd.Old) (hp1_6 : Rd Kd.u8 A p1_6 x1.Data) (hp1_7 : Rd (Kd.int .i64) A p1_7 x1.Have) (hp1_8 : Rd (Kd.int .i64) A p1_8 x1.Need) (hp1_9 : Rd Kd.u8 A p1_9 x1.Entry.Cmd.Key) (hp1_10 : Rd Kd.u8 A p1_10 x1.Entry.Cmd.Val) (hp1_11 : Rd Kd.u8 A p1_11 x1.Entry.Cmd.Old)
    (H : hocketref11_Same.f K x0 x1 = some r) :
    Calls Try.prog 39 [.agg ([.int .i64 x0.Kind, .int .i64 x0.From, .int .i64 x0.To, .int .i64 x0.View, .int .i64 x0.Inst, .int .i64 x0.Len, .bool x0.Has, .int .i64 x0.Members, .int .i64 x0.Source, .int .i64 x0.At, .int .i64 x0.Total, p0_0, .int .i64 x0.Hop, .int .i64 x0.Seq, p0_1, p0_2, .int .i64 x0.Index, .int .i64 x0.Entry.Sess, .int .i64 x0.Entry.Seq, .int .i64 x0.Entry.Cmd.Kind, .int .i64 x0.Entry.Cmd.Who, p0_3, p0_4, p0_5] : List Value).toArray, .agg ([.int .i64 x1.Kind, .int .i64 x1.From, .int .i64 x1.To, .int .i64 x1.View, .int .i64 x1.Inst, .int .i64 x1.Len, .bool x1.Has, .int .i64 x1.Members, .int .i64 x1.Source, .int .i64 x1.At, .int .i64 x1.Total, p1_6, .int .i64 x1.Hop, .int .i64 x1.Seq, p1_7, p1_8, .int .i64 x1.Index, .int .i64 x1.Entry.Sess, .int .i64 x1.Entry.Seq, .int .i64 x1.Entry.Cmd.Kind, .int .i64 x1.Entry.Cmd.Who, p1_9, p1_10, p1_11] : List Value).toArray].toArray w (Ret fun v w' => ∃ (N : Mem), v = .bool r ∧ Sep w0 w' [N] Z) := by
  unfold hocketref11_Same.f at H
  refine f_enter _ Try.func39 rfl Try.ntmps39 rfl fun a hm => ?_
  replace hm : Fr 131 a [(0, .agg ([.int .i64 x0.Kind, .int .i64 x0.From, .int .i64 x0.To, .int .i64 x0.View, .int .i64 x0.Inst, .int .i64 x0.Len, .bool x0.Has, .int .i64 x0.Members, .int .i64 x0.Source, .int .i64 x0.At, .int .i64 x0.Total, p0_0, .int .i64 x0.Hop, .int .i64 x0.Seq, p0_1, p0_2, .int .i64 x0.Index, .int .i64 x0.Entry.Sess, .int .i64 x0.Entry.Seq, .int .i64 x0.Entry.Cmd.Kind, .int .i64 x0.Entry.Cmd.Who, p0_3, p0_4, p0_5] : List Value).toArray), (1, .agg ([.int .i64 x1.Kind, .int .i64 x1.From, .int .i64 x1.To, .int .i64 x1.View, .int .i64 x1.Inst, .int .i64 x1.Len, .bool x1.Has, .int .i64 x1.Members, .int .i64 x1.Source, .int .i64 x1.At, .int .i64 x1.Total, p1_6, .int .i64 x1.Hop, .int .i64 x1.Seq, p1_7, p1_8, .int .i64 x1.Index, .int .i64 x1.Entry.Sess, .int .i64 x1.Entry.Seq, .int .i64 x1.Entry.Cmd.Kind, .int .i64 x1.Entry.Cmd.Who, p1_9, p1_10, p1_11] : List Value).toArray)] := hm
  replace hS := hS.start
  replace hS : Sep w0 w [Mem.no] Z := hS
  refine wp_seq ?_
  refine wp_region_lit ?_
  refine v_box (vs := [.int .i64 x0.Kind, .int .i64 x0.From, .int .i64 x0.To, .int .i64 x0.View, .int .i64 x0.Inst, .int .i64 x0.Len, .bool x0.Has, .int .i64 x0.Members, .int .i64 x0.Source, .int .i64 x0.At, .int .i64 x0.Total, p0_0, .int .i64 x0.Hop, .int .i64 x0.Seq, p0_1, p0_2, .int .i64 x0.Index, .int .i64 x0.Entry.Sess, .int .i64 x0.Entry.Seq, .int .i64 x0.Entry.Cmd.Kind, .int .i64 x0.Entry.Cmd.Who, p0_3, p0_4, p0_5]) hm rfl rfl rfl hS ?_
  intro w_1 g_2 hS'
  clear hm a; intro a hm
  replace hS : Sep w0 w_1 [Mem.no, Mem.one g_2 (.cells ([.int .i64 x0.Kind, .int .i64 x0.From, .int .i64 x0.To, .int .i64 x0.View, .int .i64 x0.Inst, .int .i64 x0.Len, .bool x0.Has, .int .i64 x0.Members, .int .i64 x0.Source, .int .i64 x0.At, .int .i64 x0.Total, p0_0, .int .i64 x0.Hop, .int .i64 x0.Seq, p0_1, p0_2, .int .i64 x0.Index, .int .i64 x0.Entry.Sess, .int .i64 x0.Entry.Seq, .int .i64 x0.Entry.Cmd.Kind, .int .i64 x0.Entry.Cmd.Who, p0_3, p0_4, p0_5] : List Value).toArray 29 (0, 0))] Z := hS'
  clear hS'
  refine v_box (vs := [.int .i64 x1.Kind, .int .i64 x1.From, .int .i64 x1.To, .int .i64 x1.View, .int .i64 x1.Inst, .int .i64 x1.Len, .bool x1.Has, .int .i64 x1.Members, .int .i64 x1.Source, .int .i64 x1.At, .int .i64 x1.Total, p1_6, .int .i64 x1.Hop, .int .i64 x1.Seq, p1_7, p1_8, .int .i64 x1.Index, .int .i64 x1.Entry.Sess, .int .i64 x1.Entry.Seq, .int .i64 x1.Entry.Cmd.Kind, .int .i64 x1.Entry.Cmd.Who, p1_9, p1_10, p1_11]) hm rfl rfl rfl hS ?_
  intro w_3 g_4 hS'
  clear hm a; intro a hm
  replace hS : Sep w0 w_3 [Mem.no, Mem.one g_2 (.cells ([.int .i64 x0.Kind, .int .i64 x0.From, .int .i64 x0.To, .int .i64 x0.View, .int .i64 x0.Inst, .int .i64 x0.Len, .bool x0.Has, .int .i64 x0.Members, .int .i64 x0.Source, .int .i64 x0.At, .int .i64 x0.Total, p0_0, .int .i64 x0.Hop, .int .i64 x0.Seq, p0_1, p0_2, .int .i64 x0.Index, .int .i64 x0.Entry.Sess, .int .i64 x0.Entry.Seq, .int .i64 x0.Entry.Cmd.Kind, .int .i64 x0.Entry.Cmd.Who, p0_3, p0_4, p0_5] : List Value).toArray 29 (0, 0)), Mem.one g_4 (.cells ([.int .i64 x1.Kind, .int .i64 x1.From, .int .i64 x1.To, .int .i64 x1.View, .int .i64 x1.Inst, .int .i64 x1.Len, .bool x1.Has, .int .i64 x1.Members, .int .i64 x1.Source, .int .i64 x1.At, .int .i64 x1.Total, p1_6, .int .i64 x1.Hop, .int .i64 x1.Seq, p1_7, p1_8, .int .i64 x1.Index, .int .i64 x1.Entry.Sess, .int .i64 x1.Entry.Seq, .int .i64 x1.Entry.Cmd.Kind, .int .i64 x1.Entry.Cmd.Who, p1_9, p1_10, p1_11] : List Value).toArray 29 (0, 0))] Z := hS'
  clear hS'
  refine s_assign hm rfl rfl ?_
  clear hm a; intro a hm
  refine wpList_nil ?_
  replace hm : Fr 131 a [(2, .pointer (some ⟨g_2, 0, none⟩)), (3, .pointer (some ⟨g_4, 0, none⟩)), (4, .bool false)] := hm.keep [2, 3, 4]
  refine x_then_n ?_
  refine c_seq fun KJ_5 hKJ_5 => ?_
  refine wp_region_lit ?_
  refine s_fieldAddr hm rfl Try.underlying29 rfl ti3 rfl rfl ?_
  clear hm a; intro a hm
  refine s_load hm rfl rfl (hS.load_one (p := 1) rfl Try.underlying3 rfl rfl) ?_
  clear hm a; intro a hm
  refine s_fieldAddr hm rfl Try.underlying29 rfl ti3 rfl rfl ?_
  clear hm a; intro a hm
  refine s_load hm rfl rfl (hS.load_one (p := 2) rfl Try.underlying3 rfl rfl) ?_
  clear hm a; intro a hm
  refine s_cmp (b := (x0.Kind == x1.Kind)) hm rfl rfl rfl (.inl ⟨rfl, rfl⟩) ?_
  clear hm a; intro a hm
  refine s_move hm rfl rfl ?_
  clear hm a; intro a hm
  by_cases hc_6 : x0.Kind = x1.Kind
  · rw [if_pos hc_6] at H
    refine s_on hm rfl rfl (beq_iff_eq.2 hc_6) ?_
    refine s_fieldAddr hm rfl Try.underlying29 rfl ti3 rfl rfl ?_
    clear hm a; intro a hm
    refine s_on hm rfl rfl (beq_iff_eq.2 hc_6) ?_
    refine s_load hm rfl rfl (hS.load_one (p := 1) rfl Try.underlying3 rfl rfl) ?_
    clear hm a; intro a hm
    refine s_on hm rfl rfl (beq_iff_eq.2 hc_6) ?_
    refine s_fieldAddr hm rfl Try.underlying29 rfl ti3 rfl rfl ?_
    clear hm a; intro a hm
    refine s_on hm rfl rfl (beq_iff_eq.2 hc_6) ?_
    refine s_load hm rfl rfl (hS.load_one (p := 2) rfl Try.underlying3 rfl rfl) ?_
    clear hm a; intro a hm
    refine s_on hm rfl rfl (beq_iff_eq.2 hc_6) ?_
    refine s_cmp (b := (x0.From == x1.From)) hm rfl rfl rfl (.inl ⟨rfl, rfl⟩) ?_
    clear hm a; intro a hm
    refine s_pick_t hm rfl rfl (beq_iff_eq.2 hc_6) rfl ?_
    clear hm a; intro a hm
    refine s_move hm rfl rfl ?_
    clear hm a; intro a hm
    by_cases hc_7 : x0.From = x1.From
    · rw [if_pos hc_7] at H
      refine s_on hm rfl rfl (beq_iff_eq.2 hc_7) ?_
      refine s_fieldAddr hm rfl Try.underlying29 rfl ti3 rfl rfl ?_
      clear hm a; intro a hm
      refine s_on hm rfl rfl (beq_iff_eq.2 hc_7) ?_
      refine s_load hm rfl rfl (hS.load_one (p := 1) rfl Try.underlying3 rfl rfl) ?_
      clear hm a; intro a hm
      refine s_on hm rfl rfl (beq_iff_eq.2 hc_7) ?_
      refine s_fieldAddr hm rfl Try.underlying29 rfl ti3 rfl rfl ?_
      clear hm a; intro a hm
      refine s_on hm rfl rfl (beq_iff_eq.2 hc_7) ?_
      refine s_load hm rfl rfl (hS.load_one (p := 2) rfl Try.underlying3 rfl rfl) ?_
      clear hm a; intro a hm
      refine s_on hm rfl rfl (beq_iff_eq.2 hc_7) ?_
      refine s_cmp (b := (x0.To == x1.To)) hm rfl rfl rfl (.inl ⟨rfl, rfl⟩) ?_
      clear hm a; intro a hm
      refine s_pick_t hm rfl rfl (beq_iff_eq.2 hc_7) rfl ?_
      clear hm a; intro a hm
      refine s_move hm rfl rfl ?_
      clear hm a; intro a hm
      by_cases hc_8 : x0.To = x1.To
      · rw [if_pos hc_8] at H
        refine s_on hm rfl rfl (beq_iff_eq.2 hc_8) ?_
        refine s_fieldAddr hm rfl Try.underlying29 rfl ti3 rfl rfl ?_
        clear hm a; intro a hm
        refine s_on hm rfl rfl (beq_iff_eq.2 hc_8) ?_
        refine s_load hm rfl rfl (hS.load_one (p := 1) rfl Try.underlying3 rfl rfl) ?_
        clear hm a; intro a hm
        refine s_on hm rfl rfl (beq_iff_eq.2 hc_8) ?_
        refine s_fieldAddr hm rfl Try.underlying29 rfl ti3 rfl rfl ?_
        clear hm a; intro a hm
        refine s_on hm rfl rfl (beq_iff_eq.2 hc_8) ?_
        refine s_load hm rfl rfl (hS.load_one (p := 2) rfl Try.underlying3 rfl rfl) ?_
        clear hm a; intro a hm
        refine s_on hm rfl rfl (beq_iff_eq.2 hc_8) ?_
        refine s_cmp (b := (x0.View == x1.View)) hm rfl rfl rfl (.inl ⟨rfl, rfl⟩) ?_
        clear hm a; intro a hm
        refine s_pick_t hm rfl rfl (beq_iff_eq.2 hc_8) rfl ?_
        clear hm a; intro a hm
        refine s_move hm rfl rfl ?_
        clear hm a; intro a hm
        by_cases hc_9 : x0.View = x1.View
        · rw [if_pos hc_9] at H
          refine s_on hm rfl rfl (beq_iff_eq.2 hc_9) ?_
          refine s_fieldAddr hm rfl Try.underlying29 rfl ti3 rfl rfl ?_
          clear hm a; intro a hm
          refine s_on hm rfl rfl (beq_iff_eq.2 hc_9) ?_
          refine s_load hm rfl rfl (hS.load_one (p := 1) rfl Try.underlying3 rfl rfl) ?_
          clear hm a; intro a hm
          refine s_on hm rfl rfl (beq_iff_eq.2 hc_9) ?_
          refine s_fieldAddr hm rfl Try.underlying29 rfl ti3 rfl rfl ?_
          clear hm a; intro a hm
          refine s_on hm rfl rfl (beq_iff_eq.2 hc_9) ?_
          refine s_load hm rfl rfl (hS.load_one (p := 2) rfl Try.underlying3 rfl rfl) ?_
          clear hm a; intro a hm
          refine s_on hm rfl rfl (beq_iff_eq.2 hc_9) ?_
          refine s_cmp (b := (x0.Inst == x1.Inst)) hm rfl rfl rfl (.inl ⟨rfl, rfl⟩) ?_
          clear hm a; intro a hm
          refine s_pick_t hm rfl rfl (beq_iff_eq.2 hc_9) rfl ?_
          clear hm a; intro a hm
          refine s_move hm rfl rfl ?_
          clear hm a; intro a hm
          by_cases hc_10 : x0.Inst = x1.Inst
          · rw [if_pos hc_10] at H
            refine s_on hm rfl rfl (beq_iff_eq.2 hc_10) ?_
            refine s_fieldAddr hm rfl Try.underlying29 rfl ti3 rfl rfl ?_
            clear hm a; intro a hm
            refine s_on hm rfl rfl (beq_iff_eq.2 hc_10) ?_
            refine s_load hm rfl rfl (hS.load_one (p := 1) rfl Try.underlying3 rfl rfl) ?_
            clear hm a; intro a hm
            refine s_on hm rfl rfl (beq_iff_eq.2 hc_10) ?_
            refine s_fieldAddr hm rfl Try.underlying29 rfl ti3 rfl rfl ?_
            clear hm a; intro a hm
            refine s_on hm rfl rfl (beq_iff_eq.2 hc_10) ?_
            refine s_load hm rfl rfl (hS.load_one (p := 2) rfl Try.underlying3 rfl rfl) ?_
            clear hm a; intro a hm
            refine s_on hm rfl rfl (beq_iff_eq.2 hc_10) ?_
            refine s_cmp (b := (x0.Len == x1.Len)) hm rfl rfl rfl (.inl ⟨rfl, rfl⟩) ?_
            clear hm a; intro a hm
            refine s_pick_t hm rfl rfl (beq_iff_eq.2 hc_10) rfl ?_
            clear hm a; intro a hm
            refine s_move hm rfl rfl ?_
            clear hm a; intro a hm
            by_cases hc_11 : x0.Len = x1.Len
            · rw [if_pos hc_11] at H
              refine s_on hm rfl rfl (beq_iff_eq.2 hc_11) ?_
              refine s_fieldAddr hm rfl Try.underlying29 rfl ti4 rfl rfl ?_
              clear hm a; intro a hm
              refine s_on hm rfl rfl (beq_iff_eq.2 hc_11) ?_
              refine s_load hm rfl rfl (hS.load_one (p := 1) rfl Try.underlying4 rfl rfl) ?_
              clear hm a; intro a hm
              refine s_on hm rfl rfl (beq_iff_eq.2 hc_11) ?_
              refine s_fieldAddr hm rfl Try.underlying29 rfl ti4 rfl rfl ?_
              clear hm a; intro a hm
              refine s_on hm rfl rfl (beq_iff_eq.2 hc_11) ?_
              refine s_load hm rfl rfl (hS.load_one (p := 2) rfl Try.underlying4 rfl rfl) ?_
              clear hm a; intro a hm
              refine s_on hm rfl rfl (beq_iff_eq.2 hc_11) ?_
              refine s_beq (b := (x0.Has == x1.Has)) hm rfl Try.underlying4 rfl rfl (.inl ⟨rfl, rfl⟩) ?_
              clear hm a; intro a hm
              refine s_pick_t hm rfl rfl (beq_iff_eq.2 hc_11) rfl ?_
              clear hm a; intro a hm
              refine s_move hm rfl rfl ?_
              clear hm a; intro a hm
              by_cases hc_12 : x0.Has = x1.Has
              · rw [if_pos hc_12] at H
                refine s_on hm rfl rfl (beq_iff_eq.2 hc_12) ?_
                refine s_fieldAddr hm rfl Try.underlying29 rfl ti3 rfl rfl ?_
                clear hm a; intro a hm
                refine s_on hm rfl rfl (beq_iff_eq.2 hc_12) ?_
                refine s_load hm rfl rfl (hS.load_one (p := 1) rfl Try.underlying3 rfl rfl) ?_
                clear hm a; intro a hm
                refine s_on hm rfl rfl (beq_iff_eq.2 hc_12) ?_
                refine s_fieldAddr hm rfl Try.underlying29 rfl ti3 rfl rfl ?_
                clear hm a; intro a hm
                refine s_on hm rfl rfl (beq_iff_eq.2 hc_12) ?_
                refine s_load hm rfl rfl (hS.load_one (p := 2) rfl Try.underlying3 rfl rfl) ?_
                clear hm a; intro a hm
                refine s_on hm rfl rfl (beq_iff_eq.2 hc_12) ?_
                refine s_cmp (b := (x0.Members == x1.Members)) hm rfl rfl rfl (.inl ⟨rfl, rfl⟩) ?_
                clear hm a; intro a hm
                refine s_pick_t hm rfl rfl (beq_iff_eq.2 hc_12) rfl ?_
                clear hm a; intro a hm
                refine s_move hm rfl rfl ?_
                clear hm a; intro a hm
                by_cases hc_13 : x0.Members = x1.Members
                · rw [if_pos hc_13] at H
                  refine s_on hm rfl rfl (beq_iff_eq.2 hc_13) ?_
                  refine s_fieldAddr hm rfl Try.underlying29 rfl ti3 rfl rfl ?_
                  clear hm a; intro a hm
                  refine s_on hm rfl rfl (beq_iff_eq.2 hc_13) ?_
                  refine s_load hm rfl rfl (hS.load_one (p := 1) rfl Try.underlying3 rfl rfl) ?_
                  clear hm a; intro a hm
                  refine s_on hm rfl rfl (beq_iff_eq.2 hc_13) ?_
                  refine s_fieldAddr hm rfl Try.underlying29 rfl ti3 rfl rfl ?_
                  clear hm a; intro a hm
                  refine s_on hm rfl rfl (beq_iff_eq.2 hc_13) ?_
                  refine s_load hm rfl rfl (hS.load_one (p := 2) rfl Try.underlying3 rfl rfl) ?_
                  clear hm a; intro a hm
                  refine s_on hm rfl rfl (beq_iff_eq.2 hc_13) ?_
                  refine s_cmp (b := (x0.Source == x1.Source)) hm rfl rfl rfl (.inl ⟨rfl, rfl⟩) ?_
                  clear hm a; intro a hm
                  refine s_pick_t hm rfl rfl (beq_iff_eq.2 hc_13) rfl ?_
                  clear hm a; intro a hm
                  refine s_move hm rfl rfl ?_
                  clear hm a; intro a hm
                  by_cases hc_14 : x0.Source = x1.Source
                  · rw [if_pos hc_14] at H
                    refine s_on hm rfl rfl (beq_iff_eq.2 hc_14) ?_
                    refine s_fieldAddr hm rfl Try.underlying29 rfl ti3 rfl rfl ?_
                    clear hm a; intro a hm
                    refine s_on hm rfl rfl (beq_iff_eq.2 hc_14) ?_
                    refine s_load hm rfl rfl (hS.load_one (p := 1) rfl Try.underlying3 rfl rfl) ?_
                    clear hm a; intro a hm
                    refine s_on hm rfl rfl (beq_iff_eq.2 hc_14) ?_
                    refine s_fieldAddr hm rfl Try.underlying29 rfl ti3 rfl rfl ?_
                    clear hm a; intro a hm
                    refine s_on hm rfl rfl (beq_iff_eq.2 hc_14) ?_
                    refine s_load hm rfl rfl (hS.load_one (p := 2) rfl Try.underlying3 rfl rfl) ?_
                    clear hm a; intro a hm
                    refine s_on hm rfl rfl (beq_iff_eq.2 hc_14) ?_
                    refine s_cmp (b := (x0.At == x1.At)) hm rfl rfl rfl (.inl ⟨rfl, rfl⟩) ?_
                    clear hm a; intro a hm
                    refine s_pick_t hm rfl rfl (beq_iff_eq.2 hc_14) rfl ?_
                    clear hm a; intro a hm
                    refine s_move hm rfl rfl ?_
                    clear hm a; intro a hm
                    by_cases hc_15 : x0.At = x1.At
                    · rw [if_pos hc_15] at H
                      refine s_on hm rfl rfl (beq_iff_eq.2 hc_15) ?_
                      refine s_fieldAddr hm rfl Try.underlying29 rfl ti3 rfl rfl ?_
                      clear hm a; intro a hm
                      refine s_on hm rfl rfl (beq_iff_eq.2 hc_15) ?_
                      refine s_load hm rfl rfl (hS.load_one (p := 1) rfl Try.underlying3 rfl rfl) ?_
                      clear hm a; intro a hm
                      refine s_on hm rfl rfl (beq_iff_eq.2 hc_15) ?_
                      refine s_fieldAddr hm rfl Try.underlying29 rfl ti3 rfl rfl ?_
                      clear hm a; intro a hm
                      refine s_on hm rfl rfl (beq_iff_eq.2 hc_15) ?_
                      refine s_load hm rfl rfl (hS.load_one (p := 2) rfl Try.underlying3 rfl rfl) ?_
                      clear hm a; intro a hm
                      refine s_on hm rfl rfl (beq_iff_eq.2 hc_15) ?_
                      refine s_cmp (b := (x0.Total == x1.Total)) hm rfl rfl rfl (.inl ⟨rfl, rfl⟩) ?_
                      clear hm a; intro a hm
                      refine s_pick_t hm rfl rfl (beq_iff_eq.2 hc_15) rfl ?_
                      clear hm a; intro a hm
                      refine s_move hm rfl rfl ?_
                      clear hm a; intro a hm
                      by_cases hc_16 : x0.Total = x1.Total
                      · rw [if_pos hc_16] at H
                        refine s_on hm rfl rfl (beq_iff_eq.2 hc_16) ?_
                        refine s_fieldAddr hm rfl Try.underlying29 rfl ti22 rfl rfl ?_
                        clear hm a; intro a hm
                        refine s_on hm rfl rfl (beq_iff_eq.2 hc_16) ?_
                        refine s_load hm rfl rfl (hS.load_one (p := 1) rfl Try.underlying22 rfl rfl) ?_
                        clear hm a; intro a hm
                        refine s_on hm rfl rfl (beq_iff_eq.2 hc_16) ?_
                        refine s_b2s hm rfl Try.underlying22 Try.underlying5 Try.underlying9 rfl hp0_0 (hA.trans hS.old) ?_
                        clear hm a; intro a hm
                        refine s_on hm rfl rfl (beq_iff_eq.2 hc_16) ?_
                        refine s_fieldAddr hm rfl Try.underlying29 rfl ti22 rfl rfl ?_
                        clear hm a; intro a hm
                        refine s_on hm rfl rfl (beq_iff_eq.2 hc_16) ?_
                        refine s_load hm rfl rfl (hS.load_one (p := 2) rfl Try.underlying22 rfl rfl) ?_
                        clear hm a; intro a hm
                        refine s_on hm rfl rfl (beq_iff_eq.2 hc_16) ?_
                        refine s_b2s hm rfl Try.underlying22 Try.underlying5 Try.underlying9 rfl hp1_6 (hA.trans hS.old) ?_
                        clear hm a; intro a hm
                        refine s_on hm rfl rfl (beq_iff_eq.2 hc_16) ?_
                        refine s_strEq (b := (x0.Data == x1.Data)) hm rfl rfl rfl (.inl ⟨rfl, rfl⟩) ?_
                        clear hm a; intro a hm
                        refine s_pick_t hm rfl rfl (beq_iff_eq.2 hc_16) rfl ?_
                        clear hm a; intro a hm
                        refine s_move hm rfl rfl ?_
                        clear hm a; intro a hm
                        by_cases hc_17 : x0.Data = x1.Data
                        · rw [if_pos hc_17] at H
                          refine s_on hm rfl rfl (beq_iff_eq.2 hc_17) ?_
                          refine s_fieldAddr hm rfl Try.underlying29 rfl ti3 rfl rfl ?_
                          clear hm a; intro a hm
                          refine s_on hm rfl rfl (beq_iff_eq.2 hc_17) ?_
                          refine s_load hm rfl rfl (hS.load_one (p := 1) rfl Try.underlying3 rfl rfl) ?_
                          clear hm a; intro a hm
                          refine s_on hm rfl rfl (beq_iff_eq.2 hc_17) ?_
                          refine s_fieldAddr hm rfl Try.underlying29 rfl ti3 rfl rfl ?_
                          clear hm a; intro a hm
                          refine s_on hm rfl rfl (beq_iff_eq.2 hc_17) ?_
                          refine s_load hm rfl rfl (hS.load_one (p := 2) rfl Try.underlying3 rfl rfl) ?_
                          clear hm a; intro a hm
                          refine s_on hm rfl rfl (beq_iff_eq.2 hc_17) ?_
                          refine s_cmp (b := (x0.Hop == x1.Hop)) hm rfl rfl rfl (.inl ⟨rfl, rfl⟩) ?_
                          clear hm a; intro a hm
                          refine s_pick_t hm rfl rfl (beq_iff_eq.2 hc_17) rfl ?_
                          clear hm a; intro a hm
                          refine s_move hm rfl rfl ?_
                          clear hm a; intro a hm
                          by_cases hc_18 : x0.Hop = x1.Hop
                          · rw [if_pos hc_18] at H
                            refine s_on hm rfl rfl (beq_iff_eq.2 hc_18) ?_
                            refine s_fieldAddr hm rfl Try.underlying29 rfl ti3 rfl rfl ?_
                            clear hm a; intro a hm
                            refine s_on hm rfl rfl (beq_iff_eq.2 hc_18) ?_
                            refine s_load hm rfl rfl (hS.load_one (p := 1) rfl Try.underlying3 rfl rfl) ?_
                            clear hm a; intro a hm
                            refine s_on hm rfl rfl (beq_iff_eq.2 hc_18) ?_
                            refine s_fieldAddr hm rfl Try.underlying29 rfl ti3 rfl rfl ?_
                            clear hm a; intro a hm
                            refine s_on hm rfl rfl (beq_iff_eq.2 hc_18) ?_
                            refine s_load hm rfl rfl (hS.load_one (p := 2) rfl Try.underlying3 rfl rfl) ?_
                            clear hm a; intro a hm
                            refine s_on hm rfl rfl (beq_iff_eq.2 hc_18) ?_
                            refine s_cmp (b := (x0.Seq == x1.Seq)) hm rfl rfl rfl (.inl ⟨rfl, rfl⟩) ?_
                            clear hm a; intro a hm
                            refine s_pick_t hm rfl rfl (beq_iff_eq.2 hc_18) rfl ?_
                            clear hm a; intro a hm
                            refine s_move hm rfl rfl ?_
                            clear hm a; intro a hm
                            by_cases hc_19 : x0.Seq = x1.Seq
                            · rw [if_pos hc_19] at H
                              refine s_on hm rfl rfl (beq_iff_eq.2 hc_19) ?_
                              refine s_fieldAddr hm rfl Try.underlying29 rfl ti23 rfl rfl ?_
                              clear hm a; intro a hm
                              refine s_on hm rfl rfl (beq_iff_eq.2 hc_19) ?_
                              refine s_load hm rfl rfl (hS.load_one (p := 1) rfl Try.underlying23 rfl rfl) ?_
                              clear hm a; intro a hm
                              refine s_on hm rfl rfl (beq_iff_eq.2 hc_19) ?_
                              refine s_fieldAddr hm rfl Try.underlying29 rfl ti23 rfl rfl ?_
                              clear hm a; intro a hm
                              refine s_on hm rfl rfl (beq_iff_eq.2 hc_19) ?_
                              refine s_load hm rfl rfl (hS.load_one (p := 2) rfl Try.underlying23 rfl rfl) ?_
                              clear hm a; intro a hm
                              refine s_on hm rfl rfl (beq_iff_eq.2 hc_19) ?_
                              obtain ⟨t_20, et_20, H⟩ := Option.bind_eq_some_iff.1 H
                              refine s_call hm rfl Try.call25 rfl (hocketref1_SameInts.calls K x0.Have _ x1.Have _ t_20 w0 _ _ _ (Mem.le.refl _) (hS.enter [] (by decide)) (hp0_1.mono (hA.trans (hS.le_zed []))) (hp1_7.mono (hA.trans (hS.le_zed []))) et_20) ?_
                              rintro _ w_21 ⟨N_22, rfl, hS'⟩
                              clear hm a; intro a hm
                              obtain ⟨N_23, hS'', le_23, ln_23⟩ := hS.call [] (by decide) rfl (l' := []) (ow := []) rfl hS'
                              replace hS : Sep w0 w_21 [N_23, Mem.one g_2 (.cells ([.int .i64 x0.Kind, .int .i64 x0.From, .int .i64 x0.To, .int .i64 x0.View, .int .i64 x0.Inst, .int .i64 x0.Len, .bool x0.Has, .int .i64 x0.Members, .int .i64 x0.Source, .int .i64 x0.At, .int .i64 x0.Total, p0_0, .int .i64 x0.Hop, .int .i64 x0.Seq, p0_1, p0_2, .int .i64 x0.Index, .int .i64 x0.Entry.Sess, .int .i64 x0.Entry.Seq, .int .i64 x0.Entry.Cmd.Kind, .int .i64 x0.Entry.Cmd.Who, p0_3, p0_4, p0_5] : List Value).toArray 29 (0, 0)), Mem.one g_4 (.cells ([.int .i64 x1.Kind, .int .i64 x1.From, .int .i64 x1.To, .int .i64 x1.View, .int .i64 x1.Inst, .int .i64 x1.Len, .bool x1.Has, .int .i64 x1.Members, .int .i64 x1.Source, .int .i64 x1.At, .int .i64 x1.Total, p1_6, .int .i64 x1.Hop, .int .i64 x1.Seq, p1_7, p1_8, .int .i64 x1.Index, .int .i64 x1.Entry.Sess, .int .i64 x1.Entry.Seq, .int .i64 x1.Entry.Cmd.Kind, .int .i64 x1.Entry.Cmd.Who, p1_9, p1_10, p1_11] : List Value).toArray 29 (0, 0))] Z := hS''
                              clear hS' hS''
                              refine s_pick_t hm rfl rfl (beq_iff_eq.2 hc_19) rfl ?_
                              clear hm a; intro a hm
                              refine s_move hm rfl rfl ?_
                              clear hm a; intro a hm
                              by_cases hc_24 : t_20 = true
                              · rw [if_pos hc_24] at H
                                refine s_on hm rfl rfl hc_24 ?_
                                refine s_fieldAddr hm rfl Try.underlying29 rfl ti23 rfl rfl ?_
                                clear hm a; intro a hm
                                refine s_on hm rfl rfl hc_24 ?_
                                refine s_load hm rfl rfl (hS.load_one (p := 1) rfl Try.underlying23 rfl rfl) ?_
                                clear hm a; intro a hm
                                refine s_on hm rfl rfl hc_24 ?_
                                refine s_fieldAddr hm rfl Try.underlying29 rfl ti23 rfl rfl ?_
                                clear hm a; intro a hm
                                refine s_on hm rfl rfl hc_24 ?_
                                refine s_load hm rfl rfl (hS.load_one (p := 2) rfl Try.underlying23 rfl rfl) ?_
                                clear hm a; intro a hm
                                refine s_on hm rfl rfl hc_24 ?_
                                obtain ⟨t_25, et_25, H⟩ := Option.bind_eq_some_iff.1 H
                                refine s_call hm rfl Try.call25 rfl (hocketref1_SameInts.calls K x0.Need _ x1.Need _ t_25 w0 _ _ _ (Mem.le.refl _) (hS.enter [] (by decide)) (hp0_2.mono (hA.trans (hS.le_zed []))) (hp1_8.mono (hA.trans (hS.le_zed []))) et_25) ?_
                                rintro _ w_26 ⟨N_27, rfl, hS'⟩
                                clear hm a; intro a hm
                                obtain ⟨N_28, hS'', le_28, ln_28⟩ := hS.call [] (by decide) rfl (l' := []) (ow := []) rfl hS'
                                replace hS : Sep w0 w_26 [N_28, Mem.one g_2 (.cells ([.int .i64 x0.Kind, .int .i64 x0.From, .int .i64 x0.To, .int .i64 x0.View, .int .i64 x0.Inst, .int .i64 x0.Len, .bool x0.Has, .int .i64 x0.Members, .int .i64 x0.Source, .int .i64 x0.At, .int .i64 x0.Total, p0_0, .int .i64 x0.Hop, .int .i64 x0.Seq, p0_1, p0_2, .int .i64 x0.Index, .int .i64 x0.Entry.Sess, .int .i64 x0.Entry.Seq, .int .i64 x0.Entry.Cmd.Kind, .int .i64 x0.Entry.Cmd.Who, p0_3, p0_4, p0_5] : List Value).toArray 29 (0, 0)), Mem.one g_4 (.cells ([.int .i64 x1.Kind, .int .i64 x1.From, .int .i64 x1.To, .int .i64 x1.View, .int .i64 x1.Inst, .int .i64 x1.Len, .bool x1.Has, .int .i64 x1.Members, .int .i64 x1.Source, .int .i64 x1.At, .int .i64 x1.Total, p1_6, .int .i64 x1.Hop, .int .i64 x1.Seq, p1_7, p1_8, .int .i64 x1.Index, .int .i64 x1.Entry.Sess, .int .i64 x1.Entry.Seq, .int .i64 x1.Entry.Cmd.Kind, .int .i64 x1.Entry.Cmd.Who, p1_9, p1_10, p1_11] : List Value).toArray 29 (0, 0))] Z := hS''
                                clear hS' hS''
                                refine s_pick_t hm rfl rfl hc_24 rfl ?_
                                clear hm a; intro a hm
                                refine s_move hm rfl rfl ?_
                                clear hm a; intro a hm
                                by_cases hc_29 : t_25 = true
                                · rw [if_pos hc_29] at H
                                  refine s_on hm rfl rfl hc_29 ?_
                                  refine s_fieldAddr hm rfl Try.underlying29 rfl ti3 rfl rfl ?_
                                  clear hm a; intro a hm
                                  refine s_on hm rfl rfl hc_29 ?_
                                  refine s_load hm rfl rfl (hS.load_one (p := 1) rfl Try.underlying3 rfl rfl) ?_
                                  clear hm a; intro a hm
                                  refine s_on hm rfl rfl hc_29 ?_
                                  refine s_fieldAddr hm rfl Try.underlying29 rfl ti3 rfl rfl ?_
                                  clear hm a; intro a hm
                                  refine s_on hm rfl rfl hc_29 ?_
                                  refine s_load hm rfl rfl (hS.load_one (p := 2) rfl Try.underlying3 rfl rfl) ?_
                                  clear hm a; intro a hm
                                  refine s_on hm rfl rfl hc_29 ?_
                                  refine s_cmp (b := (x0.Index == x1.Index)) hm rfl rfl rfl (.inl ⟨rfl, rfl⟩) ?_
                                  clear hm a; intro a hm
                                  refine s_pick_t hm rfl rfl hc_29 rfl ?_
                                  clear hm a; intro a hm
                                  refine s_move hm rfl rfl ?_
                                  clear hm a; intro a hm
                                  by_cases hc_30 : x0.Index = x1.Index
                                  · rw [if_pos hc_30] at H
                                    refine s_on hm rfl rfl (beq_iff_eq.2 hc_30) ?_
                                    refine s_fieldAddr hm rfl Try.underlying29 rfl ti27 rfl rfl ?_
                                    clear hm a; intro a hm
                                    refine s_on hm rfl rfl (beq_iff_eq.2 hc_30) ?_
                                    refine s_load hm rfl rfl (hS.load_agg (p := 1) (us := [.int .i64 x0.Entry.Sess, .int .i64 x0.Entry.Seq, .int .i64 x0.Entry.Cmd.Kind, .int .i64 x0.Entry.Cmd.Who, p0_3, p0_4, p0_5]) rfl Try.underlying27 rfl ti27 rfl rfl) ?_
                                    clear hm a; intro a hm
                                    refine s_on hm rfl rfl (beq_iff_eq.2 hc_30) ?_
                                    refine s_fieldAddr hm rfl Try.underlying29 rfl ti27 rfl rfl ?_
                                    clear hm a; intro a hm
                                    refine s_on hm rfl rfl (beq_iff_eq.2 hc_30) ?_
                                    refine s_load hm rfl rfl (hS.load_agg (p := 2) (us := [.int .i64 x1.Entry.Sess, .int .i64 x1.Entry.Seq, .int .i64 x1.Entry.Cmd.Kind, .int .i64 x1.Entry.Cmd.Who, p1_9, p1_10, p1_11]) rfl Try.underlying27 rfl ti27 rfl rfl) ?_
                                    clear hm a; intro a hm
                                    refine s_on hm rfl rfl (beq_iff_eq.2 hc_30) ?_
                                    obtain ⟨t_31, et_31, H⟩ := Option.bind_eq_some_iff.1 H
                                    refine s_call hm rfl Try.call66 rfl (hocketref4_SameEntry.calls x0.Entry _ _ _ x1.Entry _ _ _ t_31 w0 _ _ _ (Mem.le.refl _) (hS.enter [] (by decide)) (hp0_3.mono (hA.trans (hS.le_zed []))) (hp0_4.mono (hA.trans (hS.le_zed []))) (hp0_5.mono (hA.trans (hS.le_zed []))) (hp1_9.mono (hA.trans (hS.le_zed []))) (hp1_10.mono (hA.trans (hS.le_zed []))) (hp1_11.mono (hA.trans (hS.le_zed []))) et_31) ?_
                                    rintro _ w_32 ⟨N_33, rfl, hS'⟩
                                    clear hm a; intro a hm
                                    obtain ⟨N_34, hS'', le_34, ln_34⟩ := hS.call [] (by decide) rfl (l' := []) (ow := []) rfl hS'
                                    replace hS : Sep w0 w_32 [N_34, Mem.one g_2 (.cells ([.int .i64 x0.Kind, .int .i64 x0.From, .int .i64 x0.To, .int .i64 x0.View, .int .i64 x0.Inst, .int .i64 x0.Len, .bool x0.Has, .int .i64 x0.Members, .int .i64 x0.Source, .int .i64 x0.At, .int .i64 x0.Total, p0_0, .int .i64 x0.Hop, .int .i64 x0.Seq, p0_1, p0_2, .int .i64 x0.Index, .int .i64 x0.Entry.Sess, .int .i64 x0.Entry.Seq, .int .i64 x0.Entry.Cmd.Kind, .int .i64 x0.Entry.Cmd.Who, p0_3, p0_4, p0_5] : List Value).toArray 29 (0, 0)), Mem.one g_4 (.cells ([.int .i64 x1.Kind, .int .i64 x1.From, .int .i64 x1.To, .int .i64 x1.View, .int .i64 x1.Inst, .int .i64 x1.Len, .bool x1.Has, .int .i64 x1.Members, .int .i64 x1.Source, .int .i64 x1.At, .int .i64 x1.Total, p1_6, .int .i64 x1.Hop, .int .i64 x1.Seq, p1_7, p1_8, .int .i64 x1.Index, .int .i64 x1.Entry.Sess, .int .i64 x1.Entry.Seq, .int .i64 x1.Entry.Cmd.Kind, .int .i64 x1.Entry.Cmd.Who, p1_9, p1_10, p1_11] : List Value).toArray 29 (0, 0))] Z := hS''
                                    clear hS' hS''
                                    refine s_pick_t hm rfl rfl (beq_iff_eq.2 hc_30) rfl ?_
                                    clear hm a; intro a hm
                                    refine s_assign hm rfl rfl ?_
                                    clear hm a; intro a hm
                                    refine wpList_nil ?_
                                    replace hm : Fr 131 a [(4, .bool t_31)] := hm.keep [4]
                                    refine x_then_n (hKJ_5 _ _ ?_)
                                    refine wp_ret ?_
                                    obtain rfl := Option.some.inj H
                                    exact f_ret hm (rs := [.tmp 4]) rfl (.tmp rfl .nil) ⟨_, rfl, N_34, rfl, (Sep.sel hS [0] (by decide))⟩
                                  · rw [if_neg hc_30] at H
                                    refine s_off hm rfl rfl rfl (beq_eq_false_iff_ne.2 hc_30) ?_
                                    clear hm a; intro a hm
                                    refine s_off hm rfl rfl rfl (beq_eq_false_iff_ne.2 hc_30) ?_
                                    clear hm a; intro a hm
                                    refine s_off hm rfl rfl rfl (beq_eq_false_iff_ne.2 hc_30) ?_
                                    clear hm a; intro a hm
                                    refine s_off hm rfl rfl rfl (beq_eq_false_iff_ne.2 hc_30) ?_
                                    clear hm a; intro a hm
                                    refine s_off hm rfl rfl rfl (beq_eq_false_iff_ne.2 hc_30) ?_
                                    clear hm a; intro a hm
                                    refine s_pick_f hm rfl rfl (beq_eq_false_iff_ne.2 hc_30) rfl ?_
                                    clear hm a; intro a hm
                                    refine s_assign hm rfl rfl ?_
                                    clear hm a; intro a hm
                                    refine wpList_nil ?_
                                    replace hm : Fr 131 a [(4, .bool false)] := hm.keep [4]
                                    refine x_then_n (hKJ_5 _ _ ?_)
                                    refine wp_ret ?_
                                    obtain rfl := Option.some.inj H
                                    exact f_ret hm (rs := [.tmp 4]) rfl (.tmp rfl .nil) ⟨_, rfl, N_28, rfl, (Sep.sel hS [0] (by decide))⟩
                                · rw [if_neg hc_29] at H
                                  refine s_off hm rfl rfl rfl (Bool.eq_false_iff.2 hc_29) ?_
                                  clear hm a; intro a hm
                                  refine s_off hm rfl rfl rfl (Bool.eq_false_iff.2 hc_29) ?_
                                  clear hm a; intro a hm
                                  refine s_off hm rfl rfl rfl (Bool.eq_false_iff.2 hc_29) ?_
                                  clear hm a; intro a hm
                                  refine s_off hm rfl rfl rfl (Bool.eq_false_iff.2 hc_29) ?_
                                  clear hm a; intro a hm
                                  refine s_off hm rfl rfl rfl (Bool.eq_false_iff.2 hc_29) ?_
                                  clear hm a; intro a hm
                                  refine s_pick_f hm rfl rfl (Bool.eq_false_iff.2 hc_29) rfl ?_
                                  clear hm a; intro a hm
                                  refine s_move hm rfl rfl ?_
                                  clear hm a; intro a hm
                                  refine s_off hm rfl rfl rfl rfl ?_
                                  clear hm a; intro a hm
                                  refine s_off hm rfl rfl rfl rfl ?_
                                  clear hm a; intro a hm
                                  refine s_off hm rfl rfl rfl rfl ?_
                                  clear hm a; intro a hm
                                  refine s_off hm rfl rfl rfl rfl ?_
                                  clear hm a; intro a hm
                                  refine s_off hm rfl rfl rfl rfl ?_
                                  clear hm a; intro a hm
                                  refine s_pick_f hm rfl rfl rfl rfl ?_
                                  clear hm a; intro a hm
                                  refine s_assign hm rfl rfl ?_
                                  clear hm a; intro a hm
                                  refine wpList_nil ?_
                                  replace hm : Fr 131 a [(4, .bool false)] := hm.keep [4]
                                  refine x_then_n (hKJ_5 _ _ ?_)
                                  refine wp_ret ?_
                                  obtain rfl := Option.some.inj H
                                  exact f_ret hm (rs := [.tmp 4]) rfl (.tmp rfl .nil) ⟨_, rfl, N_28, rfl, (Sep.sel hS [0] (by decide))⟩
                              · rw [if_neg hc_24] at H
                                refine s_off hm rfl rfl rfl (Bool.eq_false_iff.2 hc_24) ?_
                                clear hm a; intro a hm
                                refine s_off hm rfl rfl rfl (Bool.eq_false_iff.2 hc_24) ?_
                                clear hm a; intro a hm
                                refine s_off hm rfl rfl rfl (Bool.eq_false_iff.2 hc_24) ?_
                                clear hm a; intro a hm
                                refine s_off hm rfl rfl rfl (Bool.eq_false_iff.2 hc_24) ?_
                                clear hm a; intro a hm
                                refine s_off hm rfl rfl rfl (Bool.eq_false_iff.2 hc_24) ?_
                                clear hm a; intro a hm
                                refine s_pick_f hm rfl rfl (Bool.eq_false_iff.2 hc_24) rfl ?_
                                clear hm a; intro a hm
                                refine s_move hm rfl rfl ?_
                                clear hm a; intro a hm
                                refine s_off hm rfl rfl rfl rfl ?_
                                clear hm a; intro a hm
                                refine s_off hm rfl rfl rfl rfl ?_
                                clear hm a; intro a hm
                                refine s_off hm rfl rfl rfl rfl ?_
                                clear hm a; intro a hm
                                refine s_off hm rfl rfl rfl rfl ?_
                                clear hm a; intro a hm
                                refine s_off hm rfl rfl rfl rfl ?_
                                clear hm a; intro a hm
                                refine s_pick_f hm rfl rfl rfl rfl ?_
                                clear hm a; intro a hm
                                refine s_move hm rfl rfl ?_
                                clear hm a; intro a hm
                                refine s_off hm rfl rfl rfl rfl ?_
                                clear hm a; intro a hm
                                refine s_off hm rfl rfl rfl rfl ?_
                                clear hm a; intro a hm
                                refine s_off hm rfl rfl rfl rfl ?_
                                clear hm a; intro a hm
                                refine s_off hm rfl rfl rfl rfl ?_
                                clear hm a; intro a hm
                                refine s_off hm rfl rfl rfl rfl ?_
                                clear hm a; intro a hm
                                refine s_pick_f hm rfl rfl rfl rfl ?_
                                clear hm a; intro a hm
                                refine s_assign hm rfl rfl ?_
                                clear hm a; intro a hm
                                refine wpList_nil ?_
                                replace hm : Fr 131 a [(4, .bool false)] := hm.keep [4]
                                refine x_then_n (hKJ_5 _ _ ?_)
                                refine wp_ret ?_
                                obtain rfl := Option.some.inj H
                                exact f_ret hm (rs := [.tmp 4]) rfl (.tmp rfl .nil) ⟨_, rfl, N_23, rfl, (Sep.sel hS [0] (by decide))⟩
                            · rw [if_neg hc_19] at H
                              refine s_off hm rfl rfl rfl (beq_eq_false_iff_ne.2 hc_19) ?_
                              clear hm a; intro a hm
                              refine s_off hm rfl rfl rfl (beq_eq_false_iff_ne.2 hc_19) ?_
                              clear hm a; intro a hm
                              refine s_off hm rfl rfl rfl (beq_eq_false_iff_ne.2 hc_19) ?_
                              clear hm a; intro a hm
                              refine s_off hm rfl rfl rfl (beq_eq_false_iff_ne.2 hc_19) ?_
                              clear hm a; intro a hm
                              refine s_off hm rfl rfl rfl (beq_eq_false_iff_ne.2 hc_19) ?_
                              clear hm a; intro a hm
                              refine s_pick_f hm rfl rfl (beq_eq_false_iff_ne.2 hc_19) rfl ?_
                              clear hm a; intro a hm
                              refine s_move hm rfl rfl ?_
                              clear hm a; intro a hm
                              refine s_off hm rfl rfl rfl rfl ?_
                              clear hm a; intro a hm
                              refine s_off hm rfl rfl rfl rfl ?_
                              clear hm a; intro a hm
                              refine s_off hm rfl rfl rfl rfl ?_
                              clear hm a; intro a hm
                              refine s_off hm rfl rfl rfl rfl ?_
                              clear hm a; intro a hm
                              refine s_off hm rfl rfl rfl rfl ?_
                              clear hm a; intro a hm
                              refine s_pick_f hm rfl rfl rfl rfl ?_
                              clear hm a; intro a hm
                              refine s_move hm rfl rfl ?_
                              clear hm a; intro a hm
                              refine s_off hm rfl rfl rfl rfl ?_
                              clear hm a; intro a hm
                              refine s_off hm rfl rfl rfl rfl ?_
                              clear hm a; intro a hm
                              refine s_off hm rfl rfl rfl rfl ?_
                              clear hm a; intro a hm
                              refine s_off hm rfl rfl rfl rfl ?_
                              clear hm a; intro a hm
                              refine s_off hm rfl rfl rfl rfl ?_
                              clear hm a; intro a hm
                              refine s_pick_f hm rfl rfl rfl rfl ?_
                              clear hm a; intro a hm
                              refine s_move hm rfl rfl ?_
                              clear hm a; intro a hm
                              refine s_off hm rfl rfl rfl rfl ?_
                              clear hm a; intro a hm
                              refine s_off hm rfl rfl rfl rfl ?_
                              clear hm a; intro a hm
                              refine s_off hm rfl rfl rfl rfl ?_
                              clear hm a; intro a hm
                              refine s_off hm rfl rfl rfl rfl ?_
                              clear hm a; intro a hm
                              refine s_off hm rfl rfl rfl rfl ?_
                              clear hm a; intro a hm
                              refine s_pick_f hm rfl rfl rfl rfl ?_
                              clear hm a; intro a hm
                              refine s_assign hm rfl rfl ?_
                              clear hm a; intro a hm
                              refine wpList_nil ?_
                              replace hm : Fr 131 a [(4, .bool false)] := hm.keep [4]
                              refine x_then_n (hKJ_5 _ _ ?_)
                              refine wp_ret ?_
                              obtain rfl := Option.some.inj H
                              exact f_ret hm (rs := [.tmp 4]) rfl (.tmp rfl .nil) ⟨_, rfl, Mem.no, rfl, (Sep.sel hS [0] (by decide))⟩
                          · rw [if_neg hc_18] at H
                            refine s_off hm rfl rfl rfl (beq_eq_false_iff_ne.2 hc_18) ?_
                            clear hm a; intro a hm
                            refine s_off hm rfl rfl rfl (beq_eq_false_iff_ne.2 hc_18) ?_
                            clear hm a; intro a hm
                            refine s_off hm rfl rfl rfl (beq_eq_false_iff_ne.2 hc_18) ?_
                            clear hm a; intro a hm
                            refine s_off hm rfl rfl rfl (beq_eq_false_iff_ne.2 hc_18) ?_
                            clear hm a; intro a hm
                            refine s_off hm rfl rfl rfl (beq_eq_false_iff_ne.2 hc_18) ?_
                            clear hm a; intro a hm
                            refine s_pick_f hm rfl rfl (beq_eq_false_iff_ne.2 hc_18) rfl ?_
                            clear hm a; intro a hm
                            refine s_move hm rfl rfl ?_
                            clear hm a; intro a hm
                            refine s_off hm rfl rfl rfl rfl ?_
                            clear hm a; intro a hm
                            refine s_off hm rfl rfl rfl rfl ?_
                            clear hm a; intro a hm
                            refine s_off hm rfl rfl rfl rfl ?_
                            clear hm a; intro a hm
                            refine s_off hm rfl rfl rfl rfl ?_
                            clear hm a; intro a hm
                            refine s_off hm rfl rfl rfl rfl ?_
                            clear hm a; intro a hm
                            refine s_pick_f hm rfl rfl rfl rfl ?_
                            clear hm a; intro a hm
                            refine s_move hm rfl rfl ?_
                            clear hm a; intro a hm
                            refine s_off hm rfl rfl rfl rfl ?_
                            clear hm a; intro a hm
                            refine s_off hm rfl rfl rfl rfl ?_
                            clear hm a; intro a hm
                            refine s_off hm rfl rfl rfl rfl ?_
                            clear hm a; intro a hm
                            refine s_off hm rfl rfl rfl rfl ?_
                            clear hm a; intro a hm
                            refine s_off hm rfl rfl rfl rfl ?_
                            clear hm a; intro a hm
                            refine s_pick_f hm rfl rfl rfl rfl ?_
                            clear hm a; intro a hm
                            refine s_move hm rfl rfl ?_
                            clear hm a; intro a hm
                            refine s_off hm rfl rfl rfl rfl ?_
                            clear hm a; intro a hm
                            refine s_off hm rfl rfl rfl rfl ?_
                            clear hm a; intro a hm
                            refine s_off hm rfl rfl rfl rfl ?_
                            clear hm a; intro a hm
                            refine s_off hm rfl rfl rfl rfl ?_
                            clear hm a; intro a hm
                            refine s_off hm rfl rfl rfl rfl ?_
                            clear hm a; intro a hm
                            refine s_pick_f hm rfl rfl rfl rfl ?_
                            clear hm a; intro a hm
                            refine s_move hm rfl rfl ?_
                            clear hm a; intro a hm
                            refine s_off hm rfl rfl rfl rfl ?_
                            clear hm a; intro a hm
                            refine s_off hm rfl rfl rfl rfl ?_
                            clear hm a; intro a hm
                            refine s_off hm rfl rfl rfl rfl ?_
                            clear hm a; intro a hm
                            refine s_off hm rfl rfl rfl rfl ?_
                            clear hm a; intro a hm
                            refine s_off hm rfl rfl rfl rfl ?_
                            clear hm a; intro a hm
                            refine s_pick_f hm rfl rfl rfl rfl ?_
                            clear hm a; intro a hm
                            refine s_assign hm rfl rfl ?_
                            clear hm a; intro a hm
                            refine wpList_nil ?_
                            replace hm : Fr 131 a [(4, .bool false)] := hm.keep [4]
                            refine x_then_n (hKJ_5 _ _ ?_)
                            refine wp_ret ?_
                            obtain rfl := Option.some.inj H
                            exact f_ret hm (rs := [.tmp 4]) rfl (.tmp rfl .nil) ⟨_, rfl, Mem.no, rfl, (Sep.sel hS [0] (by decide))⟩
                        · rw [if_neg hc_17] at H
                          refine s_off hm rfl rfl rfl (beq_eq_false_iff_ne.2 hc_17) ?_
                          clear hm a; intro a hm
                          refine s_off hm rfl rfl rfl (beq_eq_false_iff_ne.2 hc_17) ?_
                          clear hm a; intro a hm
                          refine s_off hm rfl rfl rfl (beq_eq_false_iff_ne.2 hc_17) ?_
                          clear hm a; intro a hm
                          refine s_off hm rfl rfl rfl (beq_eq_false_iff_ne.2 hc_17) ?_
                          clear hm a; intro a hm
                          refine s_off hm rfl rfl rfl (beq_eq_false_iff_ne.2 hc_17) ?_
                          clear hm a; intro a hm
                          refine s_pick_f hm rfl rfl (beq_eq_false_iff_ne.2 hc_17) rfl ?_
                          clear hm a; intro a hm
                          refine s_move hm rfl rfl ?_
                          clear hm a; intro a hm
                          refine s_off hm rfl rfl rfl rfl ?_
                          clear hm a; intro a hm
                          refine s_off hm rfl rfl rfl rfl ?_
                          clear hm a; intro a hm
                          refine s_off hm rfl rfl rfl rfl ?_
                          clear hm a; intro a hm
                          refine s_off hm rfl rfl rfl rfl ?_
                          clear hm a; intro a hm
                          refine s_off hm rfl rfl rfl rfl ?_
                          clear hm a; intro a hm
                          refine s_pick_f hm rfl rfl rfl rfl ?_
                          clear hm a; intro a hm
                          refine s_move hm rfl rfl ?_
                          clear hm a; intro a hm
                          refine s_off hm rfl rfl rfl rfl ?_
                          clear hm a; intro a hm
                          refine s_off hm rfl rfl rfl rfl ?_
                          clear hm a; intro a hm
                          refine s_off hm rfl rfl rfl rfl ?_
                          clear hm a; intro a hm
                          refine s_off hm rfl rfl rfl rfl ?_
                          clear hm a; intro a hm
                          refine s_off hm rfl rfl rfl rfl ?_
                          clear hm a; intro a hm
                          refine s_pick_f hm rfl rfl rfl rfl ?_
                          clear hm a; intro a hm
                          refine s_move hm rfl rfl ?_
                          clear hm a; intro a hm
                          refine s_off hm rfl rfl rfl rfl ?_
                          clear hm a; intro a hm
                          refine s_off hm rfl rfl rfl rfl ?_
                          clear hm a; intro a hm
                          refine s_off hm rfl rfl rfl rfl ?_
                          clear hm a; intro a hm
                          refine s_off hm rfl rfl rfl rfl ?_
                          clear hm a; intro a hm
                          refine s_off hm rfl rfl rfl rfl ?_
                          clear hm a; intro a hm
                          refine s_pick_f hm rfl rfl rfl rfl ?_
                          clear hm a; intro a hm
                          refine s_move hm rfl rfl ?_
                          clear hm a; intro a hm
                          refine s_off hm rfl rfl rfl rfl ?_
                          clear hm a; intro a hm
                          refine s_off hm rfl rfl rfl rfl ?_
                          clear hm a; intro a hm
                          refine s_off hm rfl rfl rfl rfl ?_
                          clear hm a; intro a hm
                          refine s_off hm rfl rfl rfl rfl ?_
                          clear hm a; intro a hm
                          refine s_off hm rfl rfl rfl rfl ?_
                          clear hm a; intro a hm
                          refine s_pick_f hm rfl rfl rfl rfl ?_
                          clear hm a; intro a hm
                          refine s_move hm rfl rfl ?_
                          clear hm a; intro a hm
                          refine s_off hm rfl rfl rfl rfl ?_
                          clear hm a; intro a hm
                          refine s_off hm rfl rfl rfl rfl ?_
                          clear hm a; intro a hm
                          refine s_off hm rfl rfl rfl rfl ?_
                          clear hm a; intro a hm
                          refine s_off hm rfl rfl rfl rfl ?_
                          clear hm a; intro a hm
                          refine s_off hm rfl rfl rfl rfl ?_
                          clear hm a; intro a hm
                          refine s_pick_f hm rfl rfl rfl rfl ?_
                          clear hm a; intro a hm
                          refine s_assign hm rfl rfl ?_
                          clear hm a; intro a hm
                          refine wpList_nil ?_
                          replace hm : Fr 131 a [(4, .bool false)] := hm.keep [4]
                          refine x_then_n (hKJ_5 _ _ ?_)
                          refine wp_ret ?_
                          obtain rfl := Option.some.inj H
                          exact f_ret hm (rs := [.tmp 4]) rfl (.tmp rfl .nil) ⟨_, rfl, Mem.no, rfl, (Sep.sel hS [0] (by decide))⟩
                      · rw [if_neg hc_16] at H
                        refine s_off hm rfl rfl rfl (beq_eq_false_iff_ne.2 hc_16) ?_
                        clear hm a; intro a hm
                        refine s_off hm rfl rfl rfl (beq_eq_false_iff_ne.2 hc_16) ?_
                        clear hm a; intro a hm
                        refine s_off hm rfl rfl rfl (beq_eq_false_iff_ne.2 hc_16) ?_
                        clear hm a; intro a hm
                        refine s_off hm rfl rfl rfl (beq_eq_false_iff_ne.2 hc_16) ?_
                        clear hm a; intro a hm
                        refine s_off hm rfl rfl rfl (beq_eq_false_iff_ne.2 hc_16) ?_
                        clear hm a; intro a hm
                        refine s_off hm rfl rfl rfl (beq_eq_false_iff_ne.2 hc_16) ?_
                        clear hm a; intro a hm
                        refine s_off hm rfl rfl rfl (beq_eq_false_iff_ne.2 hc_16) ?_
                        clear hm a; intro a hm
                        refine s_pick_f hm rfl rfl (beq_eq_false_iff_ne.2 hc_16) rfl ?_
                        clear hm a; intro a hm
                        refine s_move hm rfl rfl ?_
                        clear hm a; intro a hm
                        refine s_off hm rfl rfl rfl rfl ?_
                        clear hm a; intro a hm
                        refine s_off hm rfl rfl rfl rfl ?_
                        clear hm a; intro a hm
                        refine s_off hm rfl rfl rfl rfl ?_
                        clear hm a; intro a hm
                        refine s_off hm rfl rfl rfl rfl ?_
                        clear hm a; intro a hm
                        refine s_off hm rfl rfl rfl rfl ?_
                        clear hm a; intro a hm
                        refine s_pick_f hm rfl rfl rfl rfl ?_
                        clear hm a; intro a hm
                        refine s_move hm rfl rfl ?_
                        clear hm a; intro a hm
                        refine s_off hm rfl rfl rfl rfl ?_
                        clear hm a; intro a hm
                        refine s_off hm rfl rfl rfl rfl ?_
                        clear hm a; intro a hm
                        refine s_off hm rfl rfl rfl rfl ?_
                        clear hm a; intro a hm
                        refine s_off hm rfl rfl rfl rfl ?_
                        clear hm a; intro a hm
                        refine s_off hm rfl rfl rfl rfl ?_
                        clear hm a; intro a hm
                        refine s_pick_f hm rfl rfl rfl rfl ?_
                        clear hm a; intro a hm
                        refine s_move hm rfl rfl ?_
                        clear hm a; intro a hm
                        refine s_off hm rfl rfl rfl rfl ?_
                        clear hm a; intro a hm
                        refine s_off hm rfl rfl rfl rfl ?_
                        clear hm a; intro a hm
                        refine s_off hm rfl rfl rfl rfl ?_
                        clear hm a; intro a hm
                        refine s_off hm rfl rfl rfl rfl ?_
                        clear hm a; intro a hm
                        refine s_off hm rfl rfl rfl rfl ?_
                        clear hm a; intro a hm
                        refine s_pick_f hm rfl rfl rfl rfl ?_
                        clear hm a; intro a hm
                        refine s_move hm rfl rfl ?_
                        clear hm a; intro a hm
                        refine s_off hm rfl rfl rfl rfl ?_
                        clear hm a; intro a hm
                        refine s_off hm rfl rfl rfl rfl ?_
                        clear hm a; intro a hm
                        refine s_off hm rfl rfl rfl rfl ?_
                        clear hm a; intro a hm
                        refine s_off hm rfl rfl rfl rfl ?_
                        clear hm a; intro a hm
                        refine s_off hm rfl rfl rfl rfl ?_
                        clear hm a; intro a hm
                        refine s_pick_f hm rfl rfl rfl rfl ?_
                        clear hm a; intro a hm
                        refine s_move hm rfl rfl ?_
                        clear hm a; intro a hm
                        refine s_off hm rfl rfl rfl rfl ?_
                        clear hm a; intro a hm
                        refine s_off hm rfl rfl rfl rfl ?_
                        clear hm a; intro a hm
                        refine s_off hm rfl rfl rfl rfl ?_
                        clear hm a; intro a hm
                        refine s_off hm rfl rfl rfl rfl ?_
                        clear hm a; intro a hm
                        refine s_off hm rfl rfl rfl rfl ?_
                        clear hm a; intro a hm
                        refine s_pick_f hm rfl rfl rfl rfl ?_
                        clear hm a; intro a hm
                        refine s_move hm rfl rfl ?_
                        clear hm a; intro a hm
                        refine s_off hm rfl rfl rfl rfl ?_
                        clear hm a; intro a hm
                        refine s_off hm rfl rfl rfl rfl ?_
                        clear hm a; intro a hm
                        refine s_off hm rfl rfl rfl rfl ?_
                        clear hm a; intro a hm
                        refine s_off hm rfl rfl rfl rfl ?_
                        clear hm a; intro a hm
                        refine s_off hm rfl rfl rfl rfl ?_
                        clear hm a; intro a hm
                        refine s_pick_f hm rfl rfl rfl rfl ?_
                        clear hm a; intro a hm
                        refine s_assign hm rfl rfl ?_
                        clear hm a; intro a hm
                        refine wpList_nil ?_
                        replace hm : Fr 131 a [(4, .bool false)] := hm.keep [4]
                        refine x_then_n (hKJ_5 _ _ ?_)
                        refine wp_ret ?_
                        obtain rfl := Option.some.inj H
                        exact f_ret hm (rs := [.tmp 4]) rfl (.tmp rfl .nil) ⟨_, rfl, Mem.no, rfl, (Sep.sel hS [0] (by decide))⟩
                    · rw [if_neg hc_15] at H
                      refine s_off hm rfl rfl rfl (beq_eq_false_iff_ne.2 hc_15) ?_
                      clear hm a; intro a hm
                      refine s_off hm rfl rfl rfl (beq_eq_false_iff_ne.2 hc_15) ?_
                      clear hm a; intro a hm
                      refine s_off hm rfl rfl rfl (beq_eq_false_iff_ne.2 hc_15) ?_
                      clear hm a; intro a hm
                      refine s_off hm rfl rfl rfl (beq_eq_false_iff_ne.2 hc_15) ?_
                      clear hm a; intro a hm
                      refine s_off hm rfl rfl rfl (beq_eq_false_iff_ne.2 hc_15) ?_
                      clear hm a; intro a hm
                      refine s_pick_f hm rfl rfl (beq_eq_false_iff_ne.2 hc_15) rfl ?_
                      clear hm a; intro a hm
                      refine s_move hm rfl rfl ?_
                      clear hm a; intro a hm
                      refine s_off hm rfl rfl rfl rfl ?_
                      clear hm a; intro a hm
                      refine s_off hm rfl rfl rfl rfl ?_
                      clear hm a; intro a hm
                      refine s_off hm rfl rfl rfl rfl ?_
                      clear hm a; intro a hm
                      refine s_off hm rfl rfl rfl rfl ?_
                      clear hm a; intro a hm
                      refine s_off hm rfl rfl rfl rfl ?_
                      clear hm a; intro a hm
                      refine s_off hm rfl rfl rfl rfl ?_
                      clear hm a; intro a hm
                      refine s_off hm rfl rfl rfl rfl ?_
                      clear hm a; intro a hm
                      refine s_pick_f hm rfl rfl rfl rfl ?_
                      clear hm a; intro a hm
                      refine s_move hm rfl rfl ?_
                      clear hm a; intro a hm
                      refine s_off hm rfl rfl rfl rfl ?_
                      clear hm a; intro a hm
                      refine s_off hm rfl rfl rfl rfl ?_
                      clear hm a; intro a hm
                      refine s_off hm rfl rfl rfl rfl ?_
                      clear hm a; intro a hm
                      refine s_off hm rfl rfl rfl rfl ?_
                      clear hm a; intro a hm
                      refine s_off hm rfl rfl rfl rfl ?_
                      clear hm a; intro a hm
                      refine s_pick_f hm rfl rfl rfl rfl ?_
                      clear hm a; intro a hm
                      refine s_move hm rfl rfl ?_
                      clear hm a; intro a hm
                      refine s_off hm rfl rfl rfl rfl ?_
                      clear hm a; intro a hm
                      refine s_off hm rfl rfl rfl rfl ?_
                      clear hm a; intro a hm
                      refine s_off hm rfl rfl rfl rfl ?_
                      clear hm a; intro a hm
                      refine s_off hm rfl rfl rfl rfl ?_
                      clear hm a; intro a hm
                      refine s_off hm rfl rfl rfl rfl ?_
                      clear hm a; intro a hm
                      refine s_pick_f hm rfl rfl rfl rfl ?_
                      clear hm a; intro a hm
                      refine s_move hm rfl rfl ?_
                      clear hm a; intro a hm
                      refine s_off hm rfl rfl rfl rfl ?_
                      clear hm a; intro a hm
                      refine s_off hm rfl rfl rfl rfl ?_
                      clear hm a; intro a hm
                      refine s_off hm rfl rfl rfl rfl ?_
                      clear hm a; intro a hm
                      refine s_off hm rfl rfl rfl rfl ?_
                      clear hm a; intro a hm
                      refine s_off hm rfl rfl rfl rfl ?_
                      clear hm a; intro a hm
                      refine s_pick_f hm rfl rfl rfl rfl ?_
                      clear hm a; intro a hm
                      refine s_move hm rfl rfl ?_
                      clear hm a; intro a hm
                      refine s_off hm rfl rfl rfl rfl ?_
                      clear hm a; intro a hm
                      refine s_off hm rfl rfl rfl rfl ?_
                      clear hm a; intro a hm
                      refine s_off hm rfl rfl rfl rfl ?_
                      clear hm a; intro a hm
                      refine s_off hm rfl rfl rfl rfl ?_
                      clear hm a; intro a hm
                      refine s_off hm rfl rfl rfl rfl ?_
                      clear hm a; intro a hm
                      refine s_pick_f hm rfl rfl rfl rfl ?_
                      clear hm a; intro a hm
                      refine s_move hm rfl rfl ?_
                      clear hm a; intro a hm
                      refine s_off hm rfl rfl rfl rfl ?_
                      clear hm a; intro a hm
                      refine s_off hm rfl rfl rfl rfl ?_
                      clear hm a; intro a hm
                      refine s_off hm rfl rfl rfl rfl ?_
                      clear hm a; intro a hm
                      refine s_off hm rfl rfl rfl rfl ?_
                      clear hm a; intro a hm
                      refine s_off hm rfl rfl rfl rfl ?_
                      clear hm a; intro a hm
                      refine s_pick_f hm rfl rfl rfl rfl ?_
                      clear hm a; intro a hm
                      refine s_move hm rfl rfl ?_
                      clear hm a; intro a hm
                      refine s_off hm rfl rfl rfl rfl ?_
                      clear hm a; intro a hm
                      refine s_off hm rfl rfl rfl rfl ?_
                      clear hm a; intro a hm
                      refine s_off hm rfl rfl rfl rfl ?_
                      clear hm a; intro a hm
                      refine s_off hm rfl rfl rfl rfl ?_
                      clear hm a; intro a hm
                      refine s_off hm rfl rfl rfl rfl ?_
                      clear hm a; intro a hm
                      refine s_pick_f hm rfl rfl rfl rfl ?_
                      clear hm a; intro a hm
                      refine s_assign hm rfl rfl ?_
                      clear hm a; intro a hm
                      refine wpList_nil ?_
                      replace hm : Fr 131 a [(4, .bool false)] := hm.keep [4]
                      refine x_then_n (hKJ_5 _ _ ?_)
                      refine wp_ret ?_
                      obtain rfl := Option.some.inj H
                      exact f_ret hm (rs := [.tmp 4]) rfl (.tmp rfl .nil) ⟨_, rfl, Mem.no, rfl, (Sep.sel hS [0] (by decide))⟩
                  · rw [if_neg hc_14] at H
                    refine s_off hm rfl rfl rfl (beq_eq_false_iff_ne.2 hc_14) ?_
                    clear hm a; intro a hm
                    refine s_off hm rfl rfl rfl (beq_eq_false_iff_ne.2 hc_14) ?_
                    clear hm a; intro a hm
                    refine s_off hm rfl rfl rfl (beq_eq_false_iff_ne.2 hc_14) ?_
                    clear hm a; intro a hm
                    refine s_off hm rfl rfl rfl (beq_eq_false_iff_ne.2 hc_14) ?_
                    clear hm a; intro a hm
                    refine s_off hm rfl rfl rfl (beq_eq_false_iff_ne.2 hc_14) ?_
                    clear hm a; intro a hm
                    refine s_pick_f hm rfl rfl (beq_eq_false_iff_ne.2 hc_14) rfl ?_
                    clear hm a; intro a hm
                    refine s_move hm rfl rfl ?_
                    clear hm a; intro a hm
                    refine s_off hm rfl rfl rfl rfl ?_
                    clear hm a; intro a hm
                    refine s_off hm rfl rfl rfl rfl ?_
                    clear hm a; intro a hm
                    refine s_off hm rfl rfl rfl rfl ?_
                    clear hm a; intro a hm
                    refine s_off hm rfl rfl rfl rfl ?_
                    clear hm a; intro a hm
                    refine s_off hm rfl rfl rfl rfl ?_
                    clear hm a; intro a hm
                    refine s_pick_f hm rfl rfl rfl rfl ?_
                    clear hm a; intro a hm
                    refine s_move hm rfl rfl ?_
                    clear hm a; intro a hm
                    refine s_off hm rfl rfl rfl rfl ?_
                    clear hm a; intro a hm
                    refine s_off hm rfl rfl rfl rfl ?_
                    clear hm a; intro a hm
                    refine s_off hm rfl rfl rfl rfl ?_
                    clear hm a; intro a hm
                    refine s_off hm rfl rfl rfl rfl ?_
                    clear hm a; intro a hm
                    refine s_off hm rfl rfl rfl rfl ?_
                    clear hm a; intro a hm
                    refine s_off hm rfl rfl rfl rfl ?_
                    clear hm a; intro a hm
                    refine s_off hm rfl rfl rfl rfl ?_
                    clear hm a; intro a hm
                    refine s_pick_f hm rfl rfl rfl rfl ?_
                    clear hm a; intro a hm
                    refine s_move hm rfl rfl ?_
                    clear hm a; intro a hm
                    refine s_off hm rfl rfl rfl rfl ?_
                    clear hm a; intro a hm
                    refine s_off hm rfl rfl rfl rfl ?_
                    clear hm a; intro a hm
                    refine s_off hm rfl rfl rfl rfl ?_
                    clear hm a; intro a hm
                    refine s_off hm rfl rfl rfl rfl ?_
                    clear hm a; intro a hm
                    refine s_off hm rfl rfl rfl rfl ?_
                    clear hm a; intro a hm
                    refine s_pick_f hm rfl rfl rfl rfl ?_
                    clear hm a; intro a hm
                    refine s_move hm rfl rfl ?_
                    clear hm a; intro a hm
                    refine s_off hm rfl rfl rfl rfl ?_
                    clear hm a; intro a hm
                    refine s_off hm rfl rfl rfl rfl ?_
                    clear hm a; intro a hm
                    refine s_off hm rfl rfl rfl rfl ?_
                    clear hm a; intro a hm
                    refine s_off hm rfl rfl rfl rfl ?_
                    clear hm a; intro a hm
                    refine s_off hm rfl rfl rfl rfl ?_
                    clear hm a; intro a hm
                    refine s_pick_f hm rfl rfl rfl rfl ?_
                    clear hm a; intro a hm
                    refine s_move hm rfl rfl ?_
                    clear hm a; intro a hm
                    refine s_off hm rfl rfl rfl rfl ?_
                    clear hm a; intro a hm
                    refine s_off hm rfl rfl rfl rfl ?_
                    clear hm a; intro a hm
                    refine s_off hm rfl rfl rfl rfl ?_
                    clear hm a; intro a hm
                    refine s_off hm rfl rfl rfl rfl ?_
                    clear hm a; intro a hm
                    refine s_off hm rfl rfl rfl rfl ?_
                    clear hm a; intro a hm
                    refine s_pick_f hm rfl rfl rfl rfl ?_
                    clear hm a; intro a hm
                    refine s_move hm rfl rfl ?_
                    clear hm a; intro a hm
                    refine s_off hm rfl rfl rfl rfl ?_
                    clear hm a; intro a hm
                    refine s_off hm rfl rfl rfl rfl ?_
                    clear hm a; intro a hm
                    refine s_off hm rfl rfl rfl rfl ?_
                    clear hm a; intro a hm
                    refine s_off hm rfl rfl rfl rfl ?_
                    clear hm a; intro a hm
                    refine s_off hm rfl rfl rfl rfl ?_
                    clear hm a; intro a hm
                    refine s_pick_f hm rfl rfl rfl rfl ?_
                    clear hm a; intro a hm
                    refine s_move hm rfl rfl ?_
                    clear hm a; intro a hm
                    refine s_off hm rfl rfl rfl rfl ?_
                    clear hm a; intro a hm
                    refine s_off hm rfl rfl rfl rfl ?_
                    clear hm a; intro a hm
                    refine s_off hm rfl rfl rfl rfl ?_
                    clear hm a; intro a hm
                    refine s_off hm rfl rfl rfl rfl ?_
                    clear hm a; intro a hm
                    refine s_off hm rfl rfl rfl rfl ?_
                    clear hm a; intro a hm
                    refine s_pick_f hm rfl rfl rfl rfl ?_
                    clear hm a; intro a hm
                    refine s_move hm rfl rfl ?_
                    clear hm a; intro a hm
                    refine s_off hm rfl rfl rfl rfl ?_
                    clear hm a; intro a hm
                    refine s_off hm rfl rfl rfl rfl ?_
                    clear hm a; intro a hm
                    refine s_off hm rfl rfl rfl rfl ?_
                    clear hm a; intro a hm
                    refine s_off hm rfl rfl rfl rfl ?_
                    clear hm a; intro a hm
                    refine s_off hm rfl rfl rfl rfl ?_
                    clear hm a; intro a hm
                    refine s_pick_f hm rfl rfl rfl rfl ?_
                    clear hm a; intro a hm
                    refine s_assign hm rfl rfl ?_
                    clear hm a; intro a hm
                    refine wpList_nil ?_
                    replace hm : Fr 131 a [(4, .bool false)] := hm.keep [4]
                    refine x_then_n (hKJ_5 _ _ ?_)
                    refine wp_ret ?_
                    obtain rfl := Option.some.inj H
                    exact f_ret hm (rs := [.tmp 4]) rfl (.tmp rfl .nil) ⟨_, rfl, Mem.no, rfl, (Sep.sel hS [0] (by decide))⟩
                · rw [if_neg hc_13] at H
                  refine s_off hm rfl rfl rfl (beq_eq_false_iff_ne.2 hc_13) ?_
                  clear hm a; intro a hm
                  refine s_off hm rfl rfl rfl (beq_eq_false_iff_ne.2 hc_13) ?_
                  clear hm a; intro a hm
                  refine s_off hm rfl rfl rfl (beq_eq_false_iff_ne.2 hc_13) ?_
                  clear hm a; intro a hm
                  refine s_off hm rfl rfl rfl (beq_eq_false_iff_ne.2 hc_13) ?_
                  clear hm a; intro a hm
                  refine s_off hm rfl rfl rfl (beq_eq_false_iff_ne.2 hc_13) ?_
                  clear hm a; intro a hm
                  refine s_pick_f hm rfl rfl (beq_eq_false_iff_ne.2 hc_13) rfl ?_
                  clear hm a; intro a hm
                  refine s_move hm rfl rfl ?_
                  clear hm a; intro a hm
                  refine s_off hm rfl rfl rfl rfl ?_
                  clear hm a; intro a hm
                  refine s_off hm rfl rfl rfl rfl ?_
                  clear hm a; intro a hm
                  refine s_off hm rfl rfl rfl rfl ?_
                  clear hm a; intro a hm
                  refine s_off hm rfl rfl rfl rfl ?_
                  clear hm a; intro a hm
                  refine s_off hm rfl rfl rfl rfl ?_
                  clear hm a; intro a hm
                  refine s_pick_f hm rfl rfl rfl rfl ?_
                  clear hm a; intro a hm
                  refine s_move hm rfl rfl ?_
                  clear hm a; intro a hm
                  refine s_off hm rfl rfl rfl rfl ?_
                  clear hm a; intro a hm
                  refine s_off hm rfl rfl rfl rfl ?_
                  clear hm a; intro a hm
                  refine s_off hm rfl rfl rfl rfl ?_
                  clear hm a; intro a hm
                  refine s_off hm rfl rfl rfl rfl ?_
                  clear hm a; intro a hm
                  refine s_off hm rfl rfl rfl rfl ?_
                  clear hm a; intro a hm
                  refine s_pick_f hm rfl rfl rfl rfl ?_
                  clear hm a; intro a hm
                  refine s_move hm rfl rfl ?_
                  clear hm a; intro a hm
                  refine s_off hm rfl rfl rfl rfl ?_
                  clear hm a; intro a hm
                  refine s_off hm rfl rfl rfl rfl ?_
                  clear hm a; intro a hm
                  refine s_off hm rfl rfl rfl rfl ?_
                  clear hm a; intro a hm
                  refine s_off hm rfl rfl rfl rfl ?_
                  clear hm a; intro a hm
                  refine s_off hm rfl rfl rfl rfl ?_
                  clear hm a; intro a hm
                  refine s_off hm rfl rfl rfl rfl ?_
                  clear hm a; intro a hm
                  refine s_off hm rfl rfl rfl rfl ?_
                  clear hm a; intro a hm
                  refine s_pick_f hm rfl rfl rfl rfl ?_
                  clear hm a; intro a hm
                  refine s_move hm rfl rfl ?_
                  clear hm a; intro a hm
                  refine s_off hm rfl rfl rfl rfl ?_
                  clear hm a; intro a hm
                  refine s_off hm rfl rfl rfl rfl ?_
                  clear hm a; intro a hm
                  refine s_off hm rfl rfl rfl rfl ?_
                  clear hm a; intro a hm
                  refine s_off hm rfl rfl rfl rfl ?_
                  clear hm a; intro a hm
                  refine s_off hm rfl rfl rfl rfl ?_
                  clear hm a; intro a hm
                  refine s_pick_f hm rfl rfl rfl rfl ?_
                  clear hm a; intro a hm
                  refine s_move hm rfl rfl ?_
                  clear hm a; intro a hm
                  refine s_off hm rfl rfl rfl rfl ?_
                  clear hm a; intro a hm
                  refine s_off hm rfl rfl rfl rfl ?_
                  clear hm a; intro a hm
                  refine s_off hm rfl rfl rfl rfl ?_
                  clear hm a; intro a hm
                  refine s_off hm rfl rfl rfl rfl ?_
                  clear hm a; intro a hm
                  refine s_off hm rfl rfl rfl rfl ?_
                  clear hm a; intro a hm
                  refine s_pick_f hm rfl rfl rfl rfl ?_
                  clear hm a; intro a hm
                  refine s_move hm rfl rfl ?_
                  clear hm a; intro a hm
                  refine s_off hm rfl rfl rfl rfl ?_
                  clear hm a; intro a hm
                  refine s_off hm rfl rfl rfl rfl ?_
                  clear hm a; intro a hm
                  refine s_off hm rfl rfl rfl rfl ?_
                  clear hm a; intro a hm
                  refine s_off hm rfl rfl rfl rfl ?_
                  clear hm a; intro a hm
                  refine s_off hm rfl rfl rfl rfl ?_
                  clear hm a; intro a hm
                  refine s_pick_f hm rfl rfl rfl rfl ?_
                  clear hm a; intro a hm
                  refine s_move hm rfl rfl ?_
                  clear hm a; intro a hm
                  refine s_off hm rfl rfl rfl rfl ?_
                  clear hm a; intro a hm
                  refine s_off hm rfl rfl rfl rfl ?_
                  clear hm a; intro a hm
                  refine s_off hm rfl rfl rfl rfl ?_
                  clear hm a; intro a hm
                  refine s_off hm rfl rfl rfl rfl ?_
                  clear hm a; intro a hm
                  refine s_off hm rfl rfl rfl rfl ?_
                  clear hm a; intro a hm
                  refine s_pick_f hm rfl rfl rfl rfl ?_
                  clear hm a; intro a hm
                  refine s_move hm rfl rfl ?_
                  clear hm a; intro a hm
                  refine s_off hm rfl rfl rfl rfl ?_
                  clear hm a; intro a hm
                  refine s_off hm rfl rfl rfl rfl ?_
                  clear hm a; intro a hm
                  refine s_off hm rfl rfl rfl rfl ?_
                  clear hm a; intro a hm
                  refine s_off hm rfl rfl rfl rfl ?_
                  clear hm a; intro a hm
                  refine s_off hm rfl rfl rfl rfl ?_
                  clear hm a; intro a hm
                  refine s_pick_f hm rfl rfl rfl rfl ?_
                  clear hm a; intro a hm
                  refine s_move hm rfl rfl ?_
                  clear hm a; intro a hm
                  refine s_off hm rfl rfl rfl rfl ?_
                  clear hm a; intro a hm
                  refine s_off hm rfl rfl rfl rfl ?_
                  clear hm a; intro a hm
                  refine s_off hm rfl rfl rfl rfl ?_
                  clear hm a; intro a hm
                  refine s_off hm rfl rfl rfl rfl ?_
                  clear hm a; intro a hm
                  refine s_off hm rfl rfl rfl rfl ?_
                  clear hm a; intro a hm
                  refine s_pick_f hm rfl rfl rfl rfl ?_
                  clear hm a; intro a hm
                  refine s_assign hm rfl rfl ?_
                  clear hm a; intro a hm
                  refine wpList_nil ?_
                  replace hm : Fr 131 a [(4, .bool false)] := hm.keep [4]
                  refine x_then_n (hKJ_5 _ _ ?_)
                  refine wp_ret ?_
                  obtain rfl := Option.some.inj H
                  exact f_ret hm (rs := [.tmp 4]) rfl (.tmp rfl .nil) ⟨_, rfl, Mem.no, rfl, (Sep.sel hS [0] (by decide))⟩
              · rw [if_neg hc_12] at H
                refine s_off hm rfl rfl rfl (beq_eq_false_iff_ne.2 hc_12) ?_
                clear hm a; intro a hm
                refine s_off hm rfl rfl rfl (beq_eq_false_iff_ne.2 hc_12) ?_
                clear hm a; intro a hm
                refine s_off hm rfl rfl rfl (beq_eq_false_iff_ne.2 hc_12) ?_
                clear hm a; intro a hm
                refine s_off hm rfl rfl rfl (beq_eq_false_iff_ne.2 hc_12) ?_
                clear hm a; intro a hm
                refine s_off hm rfl rfl rfl (beq_eq_false_iff_ne.2 hc_12) ?_
                clear hm a; intro a hm
                refine s_pick_f hm rfl rfl (beq_eq_false_iff_ne.2 hc_12) rfl ?_
                clear hm a; intro a hm
                refine s_move hm rfl rfl ?_
                clear hm a; intro a hm
                refine s_off hm rfl rfl rfl rfl ?_
                clear hm a; intro a hm
                refine s_off hm rfl rfl rfl rfl ?_
                clear hm a; intro a hm
                refine s_off hm rfl rfl rfl rfl ?_
                clear hm a; intro a hm
                refine s_off hm rfl rfl rfl rfl ?_
                clear hm a; intro a hm
                refine s_off hm rfl rfl rfl rfl ?_
                clear hm a; intro a hm
                refine s_pick_f hm rfl rfl rfl rfl ?_
                clear hm a; intro a hm
                refine s_move hm rfl rfl ?_
                clear hm a; intro a hm
                refine s_off hm rfl rfl rfl rfl ?_
                clear hm a; intro a hm
                refine s_off hm rfl rfl rfl rfl ?_
                clear hm a; intro a hm
                refine s_off hm rfl rfl rfl rfl ?_
                clear hm a; intro a hm
                refine s_off hm rfl rfl rfl rfl ?_
                clear hm a; intro a hm
                refine s_off hm rfl rfl rfl rfl ?_
                clear hm a; intro a hm
                refine s_pick_f hm rfl rfl rfl rfl ?_
                clear hm a; intro a hm
                refine s_move hm rfl rfl ?_
                clear hm a; intro a hm
                refine s_off hm rfl rfl rfl rfl ?_
                clear hm a; intro a hm
                refine s_off hm rfl rfl rfl rfl ?_
                clear hm a; intro a hm
                refine s_off hm rfl rfl rfl rfl ?_
                clear hm a; intro a hm
                refine s_off hm rfl rfl rfl rfl ?_
                clear hm a; intro a hm
                refine s_off hm rfl rfl rfl rfl ?_
                clear hm a; intro a hm
                refine s_pick_f hm rfl rfl rfl rfl ?_
                clear hm a; intro a hm
                refine s_move hm rfl rfl ?_
                clear hm a; intro a hm
                refine s_off hm rfl rfl rfl rfl ?_
                clear hm a; intro a hm
                refine s_off hm rfl rfl rfl rfl ?_
                clear hm a; intro a hm
                refine s_off hm rfl rfl rfl rfl ?_
                clear hm a; intro a hm
                refine s_off hm rfl rfl rfl rfl ?_
                clear hm a; intro a hm
                refine s_off hm rfl rfl rfl rfl ?_
                clear hm a; intro a hm
                refine s_off hm rfl rfl rfl rfl ?_
                clear hm a; intro a hm
                refine s_off hm rfl rfl rfl rfl ?_
                clear hm a; intro a hm
                refine s_pick_f hm rfl rfl rfl rfl ?_
                clear hm a; intro a hm
                refine s_move hm rfl rfl ?_
                clear hm a; intro a hm
                refine s_off hm rfl rfl rfl rfl ?_
                clear hm a; intro a hm
                refine s_off hm rfl rfl rfl rfl ?_
                clear hm a; intro a hm
                refine s_off hm rfl rfl rfl rfl ?_
                clear hm a; intro a hm
                refine s_off hm rfl rfl rfl rfl ?_
                clear hm a; intro a hm
                refine s_off hm rfl rfl rfl rfl ?_
                clear hm a; intro a hm
                refine s_pick_f hm rfl rfl rfl rfl ?_
                clear hm a; intro a hm
                refine s_move hm rfl rfl ?_
                clear hm a; intro a hm
                refine s_off hm rfl rfl rfl rfl ?_
                clear hm a; intro a hm
                refine s_off hm rfl rfl rfl rfl ?_
                clear hm a; intro a hm
                refine s_off hm rfl rfl rfl rfl ?_
                clear hm a; intro a hm
                refine s_off hm rfl rfl rfl rfl ?_
                clear hm a; intro a hm
                refine s_off hm rfl rfl rfl rfl ?_
                clear hm a; intro a hm
                refine s_pick_f hm rfl rfl rfl rfl ?_
                clear hm a; intro a hm
                refine s_move hm rfl rfl ?_
                clear hm a; intro a hm
                refine s_off hm rfl rfl rfl rfl ?_
                clear hm a; intro a hm
                refine s_off hm rfl rfl rfl rfl ?_
                clear hm a; intro a hm
                refine s_off hm rfl rfl rfl rfl ?_
                clear hm a; intro a hm
                refine s_off hm rfl rfl rfl rfl ?_
                clear hm a; intro a hm
                refine s_off hm rfl rfl rfl rfl ?_
                clear hm a; intro a hm
                refine s_pick_f hm rfl rfl rfl rfl ?_
                clear hm a; intro a hm
                refine s_move hm rfl rfl ?_
                clear hm a; intro a hm
                refine s_off hm rfl rfl rfl rfl ?_
                clear hm a; intro a hm
                refine s_off hm rfl rfl rfl rfl ?_
                clear hm a; intro a hm
                refine s_off hm rfl rfl rfl rfl ?_
                clear hm a; intro a hm
                refine s_off hm rfl rfl rfl rfl ?_
                clear hm a; intro a hm
                refine s_off hm rfl rfl rfl rfl ?_
                clear hm a; intro a hm
                refine s_pick_f hm rfl rfl rfl rfl ?_
                clear hm a; intro a hm
                refine s_move hm rfl rfl ?_
                clear hm a; intro a hm
                refine s_off hm rfl rfl rfl rfl ?_
                clear hm a; intro a hm
                refine s_off hm rfl rfl rfl rfl ?_
                clear hm a; intro a hm
                refine s_off hm rfl rfl rfl rfl ?_
                clear hm a; intro a hm
                refine s_off hm rfl rfl rfl rfl ?_
                clear hm a; intro a hm
                refine s_off hm rfl rfl rfl rfl ?_
                clear hm a; intro a hm
                refine s_pick_f hm rfl rfl rfl rfl ?_
                clear hm a; intro a hm
                refine s_move hm rfl rfl ?_
                clear hm a; intro a hm
                refine s_off hm rfl rfl rfl rfl ?_
                clear hm a; intro a hm
                refine s_off hm rfl rfl rfl rfl ?_
                clear hm a; intro a hm
                refine s_off hm rfl rfl rfl rfl ?_
                clear hm a; intro a hm
                refine s_off hm rfl rfl rfl rfl ?_
                clear hm a; intro a hm
                refine s_off hm rfl rfl rfl rfl ?_
                clear hm a; intro a hm
                refine s_pick_f hm rfl rfl rfl rfl ?_
                clear hm a; intro a hm
                refine s_assign hm rfl rfl ?_
                clear hm a; intro a hm
                refine wpList_nil ?_
                replace hm : Fr 131 a [(4, .bool false)] := hm.keep [4]
                refine x_then_n (hKJ_5 _ _ ?_)
                refine wp_ret ?_
                obtain rfl := Option.some.inj H
                exact f_ret hm (rs := [.tmp 4]) rfl (.tmp rfl .nil) ⟨_, rfl, Mem.no, rfl, (Sep.sel hS [0] (by decide))⟩
            · rw [if_neg hc_11] at H
              refine s_off hm rfl rfl rfl (beq_eq_false_iff_ne.2 hc_11) ?_
              clear hm a; intro a hm
              refine s_off hm rfl rfl rfl (beq_eq_false_iff_ne.2 hc_11) ?_
              clear hm a; intro a hm
              refine s_off hm rfl rfl rfl (beq_eq_false_iff_ne.2 hc_11) ?_
              clear hm a; intro a hm
              refine s_off hm rfl rfl rfl (beq_eq_false_iff_ne.2 hc_11) ?_
              clear hm a; intro a hm
              refine s_off hm rfl rfl rfl (beq_eq_false_iff_ne.2 hc_11) ?_
              clear hm a; intro a hm
              refine s_pick_f hm rfl rfl (beq_eq_false_iff_ne.2 hc_11) rfl ?_
              clear hm a; intro a hm
              refine s_move hm rfl rfl ?_
              clear hm a; intro a hm
              refine s_off hm rfl rfl rfl rfl ?_
              clear hm a; intro a hm
              refine s_off hm rfl rfl rfl rfl ?_
              clear hm a; intro a hm
              refine s_off hm rfl rfl rfl rfl ?_
              clear hm a; intro a hm
              refine s_off hm rfl rfl rfl rfl ?_
              clear hm a; intro a hm
              refine s_off hm rfl rfl rfl rfl ?_
              clear hm a; intro a hm
              refine s_pick_f hm rfl rfl rfl rfl ?_
              clear hm a; intro a hm
              refine s_move hm rfl rfl ?_
              clear hm a; intro a hm
              refine s_off hm rfl rfl rfl rfl ?_
              clear hm a; intro a hm
              refine s_off hm rfl rfl rfl rfl ?_
              clear hm a; intro a hm
              refine s_off hm rfl rfl rfl rfl ?_
              clear hm a; intro a hm
              refine s_off hm rfl rfl rfl rfl ?_
              clear hm a; intro a hm
              refine s_off hm rfl rfl rfl rfl ?_
              clear hm a; intro a hm
              refine s_pick_f hm rfl rfl rfl rfl ?_
              clear hm a; intro a hm
              refine s_move hm rfl rfl ?_
              clear hm a; intro a hm
              refine s_off hm rfl rfl rfl rfl ?_
              clear hm a; intro a hm
              refine s_off hm rfl rfl rfl rfl ?_
              clear hm a; intro a hm
              refine s_off hm rfl rfl rfl rfl ?_
              clear hm a; intro a hm
              refine s_off hm rfl rfl rfl rfl ?_
              clear hm a; intro a hm
              refine s_off hm rfl rfl rfl rfl ?_
              clear hm a; intro a hm
              refine s_pick_f hm rfl rfl rfl rfl ?_
              clear hm a; intro a hm
              refine s_move hm rfl rfl ?_
              clear hm a; intro a hm
              refine s_off hm rfl rfl rfl rfl ?_
              clear hm a; intro a hm
              refine s_off hm rfl rfl rfl rfl ?_
              clear hm a; intro a hm
              refine s_off hm rfl rfl rfl rfl ?_
              clear hm a; intro a hm
              refine s_off hm rfl rfl rfl rfl ?_
              clear hm a; intro a hm
              refine s_off hm rfl rfl rfl rfl ?_
              clear hm a; intro a hm
              refine s_pick_f hm rfl rfl rfl rfl ?_
              clear hm a; intro a hm
              refine s_move hm rfl rfl ?_
              clear hm a; intro a hm
              refine s_off hm rfl rfl rfl rfl ?_
              clear hm a; intro a hm
              refine s_off hm rfl rfl rfl rfl ?_
              clear hm a; intro a hm
              refine s_off hm rfl rfl rfl rfl ?_
              clear hm a; intro a hm
              refine s_off hm rfl rfl rfl rfl ?_
              clear hm a; intro a hm
              refine s_off hm rfl rfl rfl rfl ?_
              clear hm a; intro a hm
              refine s_off hm rfl rfl rfl rfl ?_
              clear hm a; intro a hm
              refine s_off hm rfl rfl rfl rfl ?_
              clear hm a; intro a hm
              refine s_pick_f hm rfl rfl rfl rfl ?_
              clear hm a; intro a hm
              refine s_move hm rfl rfl ?_
              clear hm a; intro a hm
              refine s_off hm rfl rfl rfl rfl ?_
              clear hm a; intro a hm
              refine s_off hm rfl rfl rfl rfl ?_
              clear hm a; intro a hm
              refine s_off hm rfl rfl rfl rfl ?_
              clear hm a; intro a hm
              refine s_off hm rfl rfl rfl rfl ?_
              clear hm a; intro a hm
              refine s_off hm rfl rfl rfl rfl ?_
              clear hm a; intro a hm
              refine s_pick_f hm rfl rfl rfl rfl ?_
              clear hm a; intro a hm
              refine s_move hm rfl rfl ?_
              clear hm a; intro a hm
              refine s_off hm rfl rfl rfl rfl ?_
              clear hm a; intro a hm
              refine s_off hm rfl rfl rfl rfl ?_
              clear hm a; intro a hm
              refine s_off hm rfl rfl rfl rfl ?_
              clear hm a; intro a hm
              refine s_off hm rfl rfl rfl rfl ?_
              clear hm a; intro a hm
              refine s_off hm rfl rfl rfl rfl ?_
              clear hm a; intro a hm
              refine s_pick_f hm rfl rfl rfl rfl ?_
              clear hm a; intro a hm
              refine s_move hm rfl rfl ?_
              clear hm a; intro a hm
              refine s_off hm rfl rfl rfl rfl ?_
              clear hm a; intro a hm
              refine s_off hm rfl rfl rfl rfl ?_
              clear hm a; intro a hm
              refine s_off hm rfl rfl rfl rfl ?_
              clear hm a; intro a hm
              refine s_off hm rfl rfl rfl rfl ?_
              clear hm a; intro a hm
              refine s_off hm rfl rfl rfl rfl ?_
              clear hm a; intro a hm
              refine s_pick_f hm rfl rfl rfl rfl ?_
              clear hm a; intro a hm
              refine s_move hm rfl rfl ?_
              clear hm a; intro a hm
              refine s_off hm rfl rfl rfl rfl ?_
              clear hm a; intro a hm
              refine s_off hm rfl rfl rfl rfl ?_
              clear hm a; intro a hm
              refine s_off hm rfl rfl rfl rfl ?_
              clear hm a; intro a hm
              refine s_off hm rfl rfl rfl rfl ?_
              clear hm a; intro a hm
              refine s_off hm rfl rfl rfl rfl ?_
              clear hm a; intro a hm
              refine s_pick_f hm rfl rfl rfl rfl ?_
              clear hm a; intro a hm
              refine s_move hm rfl rfl ?_
              clear hm a; intro a hm
              refine s_off hm rfl rfl rfl rfl ?_
              clear hm a; intro a hm
              refine s_off hm rfl rfl rfl rfl ?_
              clear hm a; intro a hm
              refine s_off hm rfl rfl rfl rfl ?_
              clear hm a; intro a hm
              refine s_off hm rfl rfl rfl rfl ?_
              clear hm a; intro a hm
              refine s_off hm rfl rfl rfl rfl ?_
              clear hm a; intro a hm
              refine s_pick_f hm rfl rfl rfl rfl ?_
              clear hm a; intro a hm
              refine s_move hm rfl rfl ?_
              clear hm a; intro a hm
              refine s_off hm rfl rfl rfl rfl ?_
              clear hm a; intro a hm
              refine s_off hm rfl rfl rfl rfl ?_
              clear hm a; intro a hm
              refine s_off hm rfl rfl rfl rfl ?_
              clear hm a; intro a hm
              refine s_off hm rfl rfl rfl rfl ?_
              clear hm a; intro a hm
              refine s_off hm rfl rfl rfl rfl ?_
              clear hm a; intro a hm
              refine s_pick_f hm rfl rfl rfl rfl ?_
              clear hm a; intro a hm
              refine s_assign hm rfl rfl ?_
              clear hm a; intro a hm
              refine wpList_nil ?_
              replace hm : Fr 131 a [(4, .bool false)] := hm.keep [4]
              refine x_then_n (hKJ_5 _ _ ?_)
              refine wp_ret ?_
              obtain rfl := Option.some.inj H
              exact f_ret hm (rs := [.tmp 4]) rfl (.tmp rfl .nil) ⟨_, rfl, Mem.no, rfl, (Sep.sel hS [0] (by decide))⟩
          · rw [if_neg hc_10] at H
            refine s_off hm rfl rfl rfl (beq_eq_false_iff_ne.2 hc_10) ?_
            clear hm a; intro a hm
            refine s_off hm rfl rfl rfl (beq_eq_false_iff_ne.2 hc_10) ?_
            clear hm a; intro a hm
            refine s_off hm rfl rfl rfl (beq_eq_false_iff_ne.2 hc_10) ?_
            clear hm a; intro a hm
            refine s_off hm rfl rfl rfl (beq_eq_false_iff_ne.2 hc_10) ?_
            clear hm a; intro a hm
            refine s_off hm rfl rfl rfl (beq_eq_false_iff_ne.2 hc_10) ?_
            clear hm a; intro a hm
            refine s_pick_f hm rfl rfl (beq_eq_false_iff_ne.2 hc_10) rfl ?_
            clear hm a; intro a hm
            refine s_move hm rfl rfl ?_
            clear hm a; intro a hm
            refine s_off hm rfl rfl rfl rfl ?_
            clear hm a; intro a hm
            refine s_off hm rfl rfl rfl rfl ?_
            clear hm a; intro a hm
            refine s_off hm rfl rfl rfl rfl ?_
            clear hm a; intro a hm
            refine s_off hm rfl rfl rfl rfl ?_
            clear hm a; intro a hm
            refine s_off hm rfl rfl rfl rfl ?_
            clear hm a; intro a hm
            refine s_pick_f hm rfl rfl rfl rfl ?_
            clear hm a; intro a hm
            refine s_move hm rfl rfl ?_
            clear hm a; intro a hm
            refine s_off hm rfl rfl rfl rfl ?_
            clear hm a; intro a hm
            refine s_off hm rfl rfl rfl rfl ?_
            clear hm a; intro a hm
            refine s_off hm rfl rfl rfl rfl ?_
            clear hm a; intro a hm
            refine s_off hm rfl rfl rfl rfl ?_
            clear hm a; intro a hm
            refine s_off hm rfl rfl rfl rfl ?_
            clear hm a; intro a hm
            refine s_pick_f hm rfl rfl rfl rfl ?_
            clear hm a; intro a hm
            refine s_move hm rfl rfl ?_
            clear hm a; intro a hm
            refine s_off hm rfl rfl rfl rfl ?_
            clear hm a; intro a hm
            refine s_off hm rfl rfl rfl rfl ?_
            clear hm a; intro a hm
            refine s_off hm rfl rfl rfl rfl ?_
            clear hm a; intro a hm
            refine s_off hm rfl rfl rfl rfl ?_
            clear hm a; intro a hm
            refine s_off hm rfl rfl rfl rfl ?_
            clear hm a; intro a hm
            refine s_pick_f hm rfl rfl rfl rfl ?_
            clear hm a; intro a hm
            refine s_move hm rfl rfl ?_
            clear hm a; intro a hm
            refine s_off hm rfl rfl rfl rfl ?_
            clear hm a; intro a hm
            refine s_off hm rfl rfl rfl rfl ?_
            clear hm a; intro a hm
            refine s_off hm rfl rfl rfl rfl ?_
            clear hm a; intro a hm
            refine s_off hm rfl rfl rfl rfl ?_
            clear hm a; intro a hm
            refine s_off hm rfl rfl rfl rfl ?_
            clear hm a; intro a hm
            refine s_pick_f hm rfl rfl rfl rfl ?_
            clear hm a; intro a hm
            refine s_move hm rfl rfl ?_
            clear hm a; intro a hm
            refine s_off hm rfl rfl rfl rfl ?_
            clear hm a; intro a hm
            refine s_off hm rfl rfl rfl rfl ?_
            clear hm a; intro a hm
            refine s_off hm rfl rfl rfl rfl ?_
            clear hm a; intro a hm
            refine s_off hm rfl rfl rfl rfl ?_
            clear hm a; intro a hm
            refine s_off hm rfl rfl rfl rfl ?_
            clear hm a; intro a hm
            refine s_pick_f hm rfl rfl rfl rfl ?_
            clear hm a; intro a hm
            refine s_move hm rfl rfl ?_
            clear hm a; intro a hm
            refine s_off hm rfl rfl rfl rfl ?_
            clear hm a; intro a hm
            refine s_off hm rfl rfl rfl rfl ?_
            clear hm a; intro a hm
            refine s_off hm rfl rfl rfl rfl ?_
            clear hm a; intro a hm
            refine s_off hm rfl rfl rfl rfl ?_
            clear hm a; intro a hm
            refine s_off hm rfl rfl rfl rfl ?_
            clear hm a; intro a hm
            refine s_off hm rfl rfl rfl rfl ?_
            clear hm a; intro a hm
            refine s_off hm rfl rfl rfl rfl ?_
            clear hm a; intro a hm
            refine s_pick_f hm rfl rfl rfl rfl ?_
            clear hm a; intro a hm
            refine s_move hm rfl rfl ?_
            clear hm a; intro a hm
            refine s_off hm rfl rfl rfl rfl ?_
            clear hm a; intro a hm
            refine s_off hm rfl rfl rfl rfl ?_
            clear hm a; intro a hm
            refine s_off hm rfl rfl rfl rfl ?_
            clear hm a; intro a hm
            refine s_off hm rfl rfl rfl rfl ?_
            clear hm a; intro a hm
            refine s_off hm rfl rfl rfl rfl ?_
            clear hm a; intro a hm
            refine s_pick_f hm rfl rfl rfl rfl ?_
            clear hm a; intro a hm
            refine s_move hm rfl rfl ?_
            clear hm a; intro a hm
            refine s_off hm rfl rfl rfl rfl ?_
            clear hm a; intro a hm
            refine s_off hm rfl rfl rfl rfl ?_
            clear hm a; intro a hm
            refine s_off hm rfl rfl rfl rfl ?_
            clear hm a; intro a hm
            refine s_off hm rfl rfl rfl rfl ?_
            clear hm a; intro a hm
            refine s_off hm rfl rfl rfl rfl ?_
            clear hm a; intro a hm
            refine s_pick_f hm rfl rfl rfl rfl ?_
            clear hm a; intro a hm
            refine s_move hm rfl rfl ?_
            clear hm a; intro a hm
            refine s_off hm rfl rfl rfl rfl ?_
            clear hm a; intro a hm
            refine s_off hm rfl rfl rfl rfl ?_
            clear hm a; intro a hm
            refine s_off hm rfl rfl rfl rfl ?_
            clear hm a; intro a hm
            refine s_off hm rfl rfl rfl rfl ?_
            clear hm a; intro a hm
            refine s_off hm rfl rfl rfl rfl ?_
            clear hm a; intro a hm
            refine s_pick_f hm rfl rfl rfl rfl ?_
            clear hm a; intro a hm
            refine s_move hm rfl rfl ?_
            clear hm a; intro a hm
            refine s_off hm rfl rfl rfl rfl ?_
            clear hm a; intro a hm
            refine s_off hm rfl rfl rfl rfl ?_
            clear hm a; intro a hm
            refine s_off hm rfl rfl rfl rfl ?_
            clear hm a; intro a hm
            refine s_off hm rfl rfl rfl rfl ?_
            clear hm a; intro a hm
            refine s_off hm rfl rfl rfl rfl ?_
            clear hm a; intro a hm
            refine s_pick_f hm rfl rfl rfl rfl ?_
            clear hm a; intro a hm
            refine s_move hm rfl rfl ?_
            clear hm a; intro a hm
            refine s_off hm rfl rfl rfl rfl ?_
            clear hm a; intro a hm
            refine s_off hm rfl rfl rfl rfl ?_
            clear hm a; intro a hm
            refine s_off hm rfl rfl rfl rfl ?_
            clear hm a; intro a hm
            refine s_off hm rfl rfl rfl rfl ?_
            clear hm a; intro a hm
            refine s_off hm rfl rfl rfl rfl ?_
            clear hm a; intro a hm
            refine s_pick_f hm rfl rfl rfl rfl ?_
            clear hm a; intro a hm
            refine s_move hm rfl rfl ?_
            clear hm a; intro a hm
            refine s_off hm rfl rfl rfl rfl ?_
            clear hm a; intro a hm
            refine s_off hm rfl rfl rfl rfl ?_
            clear hm a; intro a hm
            refine s_off hm rfl rfl rfl rfl ?_
            clear hm a; intro a hm
            refine s_off hm rfl rfl rfl rfl ?_
            clear hm a; intro a hm
            refine s_off hm rfl rfl rfl rfl ?_
            clear hm a; intro a hm
            refine s_pick_f hm rfl rfl rfl rfl ?_
            clear hm a; intro a hm
            refine s_assign hm rfl rfl ?_
            clear hm a; intro a hm
            refine wpList_nil ?_
            replace hm : Fr 131 a [(4, .bool false)] := hm.keep [4]
            refine x_then_n (hKJ_5 _ _ ?_)
            refine wp_ret ?_
            obtain rfl := Option.some.inj H
            exact f_ret hm (rs := [.tmp 4]) rfl (.tmp rfl .nil) ⟨_, rfl, Mem.no, rfl, (Sep.sel hS [0] (by decide))⟩
        · rw [if_neg hc_9] at H
          refine s_off hm rfl rfl rfl (beq_eq_false_iff_ne.2 hc_9) ?_
          clear hm a; intro a hm
          refine s_off hm rfl rfl rfl (beq_eq_false_iff_ne.2 hc_9) ?_
          clear hm a; intro a hm
          refine s_off hm rfl rfl rfl (beq_eq_false_iff_ne.2 hc_9) ?_
          clear hm a; intro a hm
          refine s_off hm rfl rfl rfl (beq_eq_false_iff_ne.2 hc_9) ?_
          clear hm a; intro a hm
          refine s_off hm rfl rfl rfl (beq_eq_false_iff_ne.2 hc_9) ?_
          clear hm a; intro a hm
          refine s_pick_f hm rfl rfl (beq_eq_false_iff_ne.2 hc_9) rfl ?_
          clear hm a; intro a hm
          refine s_move hm rfl rfl ?_
          clear hm a; intro a hm
          refine s_off hm rfl rfl rfl rfl ?_
          clear hm a; intro a hm
          refine s_off hm rfl rfl rfl rfl ?_
          clear hm a; intro a hm
          refine s_off hm rfl rfl rfl rfl ?_
          clear hm a; intro a hm
          refine s_off hm rfl rfl rfl rfl ?_
          clear hm a; intro a hm
          refine s_off hm rfl rfl rfl rfl ?_
          clear hm a; intro a hm
          refine s_pick_f hm rfl rfl rfl rfl ?_
          clear hm a; intro a hm
          refine s_move hm rfl rfl ?_
          clear hm a; intro a hm
          refine s_off hm rfl rfl rfl rfl ?_
          clear hm a; intro a hm
          refine s_off hm rfl rfl rfl rfl ?_
          clear hm a; intro a hm
          refine s_off hm rfl rfl rfl rfl ?_
          clear hm a; intro a hm
          refine s_off hm rfl rfl rfl rfl ?_
          clear hm a; intro a hm
          refine s_off hm rfl rfl rfl rfl ?_
          clear hm a; intro a hm
          refine s_pick_f hm rfl rfl rfl rfl ?_
          clear hm a; intro a hm
          refine s_move hm rfl rfl ?_
          clear hm a; intro a hm
          refine s_off hm rfl rfl rfl rfl ?_
          clear hm a; intro a hm
          refine s_off hm rfl rfl rfl rfl ?_
          clear hm a; intro a hm
          refine s_off hm rfl rfl rfl rfl ?_
          clear hm a; intro a hm
          refine s_off hm rfl rfl rfl rfl ?_
          clear hm a; intro a hm
          refine s_off hm rfl rfl rfl rfl ?_
          clear hm a; intro a hm
          refine s_pick_f hm rfl rfl rfl rfl ?_
          clear hm a; intro a hm
          refine s_move hm rfl rfl ?_
          clear hm a; intro a hm
          refine s_off hm rfl rfl rfl rfl ?_
          clear hm a; intro a hm
          refine s_off hm rfl rfl rfl rfl ?_
          clear hm a; intro a hm
          refine s_off hm rfl rfl rfl rfl ?_
          clear hm a; intro a hm
          refine s_off hm rfl rfl rfl rfl ?_
          clear hm a; intro a hm
          refine s_off hm rfl rfl rfl rfl ?_
          clear hm a; intro a hm
          refine s_pick_f hm rfl rfl rfl rfl ?_
          clear hm a; intro a hm
          refine s_move hm rfl rfl ?_
          clear hm a; intro a hm
          refine s_off hm rfl rfl rfl rfl ?_
          clear hm a; intro a hm
          refine s_off hm rfl rfl rfl rfl ?_
          clear hm a; intro a hm
          refine s_off hm rfl rfl rfl rfl ?_
          clear hm a; intro a hm
          refine s_off hm rfl rfl rfl rfl ?_
          clear hm a; intro a hm
          refine s_off hm rfl rfl rfl rfl ?_
          clear hm a; intro a hm
          refine s_pick_f hm rfl rfl rfl rfl ?_
          clear hm a; intro a hm
          refine s_move hm rfl rfl ?_
          clear hm a; intro a hm
          refine s_off hm rfl rfl rfl rfl ?_
          clear hm a; intro a hm
          refine s_off hm rfl rfl rfl rfl ?_
          clear hm a; intro a hm
          refine s_off hm rfl rfl rfl rfl ?_
          clear hm a; intro a hm
          refine s_off hm rfl rfl rfl rfl ?_
          clear hm a; intro a hm
          refine s_off hm rfl rfl rfl rfl ?_
          clear hm a; intro a hm
          refine s_pick_f hm rfl rfl rfl rfl ?_
          clear hm a; intro a hm
          refine s_move hm rfl rfl ?_
          clear hm a; intro a hm
          refine s_off hm rfl rfl rfl rfl ?_
          clear hm a; intro a hm
          refine s_off hm rfl rfl rfl rfl ?_
          clear hm a; intro a hm
          refine s_off hm rfl rfl rfl rfl ?_
          clear hm a; intro a hm
          refine s_off hm rfl rfl rfl rfl ?_
          clear hm a; intro a hm
          refine s_off hm rfl rfl rfl rfl ?_
          clear hm a; intro a hm
          refine s_off hm rfl rfl rfl rfl ?_
          clear hm a; intro a hm
          refine s_off hm rfl rfl rfl rfl ?_
          clear hm a; intro a hm
          refine s_pick_f hm rfl rfl rfl rfl ?_
          clear hm a; intro a hm
          refine s_move hm rfl rfl ?_
          clear hm a; intro a hm
          refine s_off hm rfl rfl rfl rfl ?_
          clear hm a; intro a hm
          refine s_off hm rfl rfl rfl rfl ?_
          clear hm a; intro a hm
          refine s_off hm rfl rfl rfl rfl ?_
          clear hm a; intro a hm
          refine s_off hm rfl rfl rfl rfl ?_
          clear hm a; intro a hm
          refine s_off hm rfl rfl rfl rfl ?_
          clear hm a; intro a hm
          refine s_pick_f hm rfl rfl rfl rfl ?_
          clear hm a; intro a hm
          refine s_move hm rfl rfl ?_
          clear hm a; intro a hm
          refine s_off hm rfl rfl rfl rfl ?_
          clear hm a; intro a hm
          refine s_off hm rfl rfl rfl rfl ?_
          clear hm a; intro a hm
          refine s_off hm rfl rfl rfl rfl ?_
          clear hm a; intro a hm
          refine s_off hm rfl rfl rfl rfl ?_
          clear hm a; intro a hm
          refine s_off hm rfl rfl rfl rfl ?_
          clear hm a; intro a hm
          refine s_pick_f hm rfl rfl rfl rfl ?_
          clear hm a; intro a hm
          refine s_move hm rfl rfl ?_
          clear hm a; intro a hm
          refine s_off hm rfl rfl rfl rfl ?_
          clear hm a; intro a hm
          refine s_off hm rfl rfl rfl rfl ?_
          clear hm a; intro a hm
          refine s_off hm rfl rfl rfl rfl ?_
          clear hm a; intro a hm
          refine s_off hm rfl rfl rfl rfl ?_
          clear hm a; intro a hm
          refine s_off hm rfl rfl rfl rfl ?_
          clear hm a; intro a hm
          refine s_pick_f hm rfl rfl rfl rfl ?_
          clear hm a; intro a hm
          refine s_move hm rfl rfl ?_
          clear hm a; intro a hm
          refine s_off hm rfl rfl rfl rfl ?_
          clear hm a; intro a hm
          refine s_off hm rfl rfl rfl rfl ?_
          clear hm a; intro a hm
          refine s_off hm rfl rfl rfl rfl ?_
          clear hm a; intro a hm
          refine s_off hm rfl rfl rfl rfl ?_
          clear hm a; intro a hm
          refine s_off hm rfl rfl rfl rfl ?_
          clear hm a; intro a hm
          refine s_pick_f hm rfl rfl rfl rfl ?_
          clear hm a; intro a hm
          refine s_move hm rfl rfl ?_
          clear hm a; intro a hm
          refine s_off hm rfl rfl rfl rfl ?_
          clear hm a; intro a hm
          refine s_off hm rfl rfl rfl rfl ?_
          clear hm a; intro a hm
          refine s_off hm rfl rfl rfl rfl ?_
          clear hm a; intro a hm
          refine s_off hm rfl rfl rfl rfl ?_
          clear hm a; intro a hm
          refine s_off hm rfl rfl rfl rfl ?_
          clear hm a; intro a hm
          refine s_pick_f hm rfl rfl rfl rfl ?_
          clear hm a; intro a hm
          refine s_move hm rfl rfl ?_
          clear hm a; intro a hm
          refine s_off hm rfl rfl rfl rfl ?_
          clear hm a; intro a hm
          refine s_off hm rfl rfl rfl rfl ?_
          clear hm a; intro a hm
          refine s_off hm rfl rfl rfl rfl ?_
          clear hm a; intro a hm
          refine s_off hm rfl rfl rfl rfl ?_
          clear hm a; intro a hm
          refine s_off hm rfl rfl rfl rfl ?_
          clear hm a; intro a hm
          refine s_pick_f hm rfl rfl rfl rfl ?_
          clear hm a; intro a hm
          refine s_assign hm rfl rfl ?_
          clear hm a; intro a hm
          refine wpList_nil ?_
          replace hm : Fr 131 a [(4, .bool false)] := hm.keep [4]
          refine x_then_n (hKJ_5 _ _ ?_)
          refine wp_ret ?_
          obtain rfl := Option.some.inj H
          exact f_ret hm (rs := [.tmp 4]) rfl (.tmp rfl .nil) ⟨_, rfl, Mem.no, rfl, (Sep.sel hS [0] (by decide))⟩
      · rw [if_neg hc_8] at H
        refine s_off hm rfl rfl rfl (beq_eq_false_iff_ne.2 hc_8) ?_
        clear hm a; intro a hm
        refine s_off hm rfl rfl rfl (beq_eq_false_iff_ne.2 hc_8) ?_
        clear hm a; intro a hm
        refine s_off hm rfl rfl rfl (beq_eq_false_iff_ne.2 hc_8) ?_
        clear hm a; intro a hm
        refine s_off hm rfl rfl rfl (beq_eq_false_iff_ne.2 hc_8) ?_
        clear hm a; intro a hm
        refine s_off hm rfl rfl rfl (beq_eq_false_iff_ne.2 hc_8) ?_
        clear hm a; intro a hm
        refine s_pick_f hm rfl rfl (beq_eq_false_iff_ne.2 hc_8) rfl ?_
        clear hm a; intro a hm
        refine s_move hm rfl rfl ?_
        clear hm a; intro a hm
        refine s_off hm rfl rfl rfl rfl ?_
        clear hm a; intro a hm
        refine s_off hm rfl rfl rfl rfl ?_
        clear hm a; intro a hm
        refine s_off hm rfl rfl rfl rfl ?_
        clear hm a; intro a hm
        refine s_off hm rfl rfl rfl rfl ?_
        clear hm a; intro a hm
        refine s_off hm rfl rfl rfl rfl ?_
        clear hm a; intro a hm
        refine s_pick_f hm rfl rfl rfl rfl ?_
        clear hm a; intro a hm
        refine s_move hm rfl rfl ?_
        clear hm a; intro a hm
        refine s_off hm rfl rfl rfl rfl ?_
        clear hm a; intro a hm
        refine s_off hm rfl rfl rfl rfl ?_
        clear hm a; intro a hm
        refine s_off hm rfl rfl rfl rfl ?_
        clear hm a; intro a hm
        refine s_off hm rfl rfl rfl rfl ?_
        clear hm a; intro a hm
        refine s_off hm rfl rfl rfl rfl ?_
        clear hm a; intro a hm
        refine s_pick_f hm rfl rfl rfl rfl ?_
        clear hm a; intro a hm
        refine s_move hm rfl rfl ?_
        clear hm a; intro a hm
        refine s_off hm rfl rfl rfl rfl ?_
        clear hm a; intro a hm
        refine s_off hm rfl rfl rfl rfl ?_
        clear hm a; intro a hm
        refine s_off hm rfl rfl rfl rfl ?_
        clear hm a; intro a hm
        refine s_off hm rfl rfl rfl rfl ?_
        clear hm a; intro a hm
        refine s_off hm rfl rfl rfl rfl ?_
        clear hm a; intro a hm
        refine s_pick_f hm rfl rfl rfl rfl ?_
        clear hm a; intro a hm
        refine s_move hm rfl rfl ?_
        clear hm a; intro a hm
        refine s_off hm rfl rfl rfl rfl ?_
        clear hm a; intro a hm
        refine s_off hm rfl rfl rfl rfl ?_
        clear hm a; intro a hm
        refine s_off hm rfl rfl rfl rfl ?_
        clear hm a; intro a hm
        refine s_off hm rfl rfl rfl rfl ?_
        clear hm a; intro a hm
        refine s_off hm rfl rfl rfl rfl ?_
        clear hm a; intro a hm
        refine s_pick_f hm rfl rfl rfl rfl ?_
        clear hm a; intro a hm
        refine s_move hm rfl rfl ?_
        clear hm a; intro a hm
        refine s_off hm rfl rfl rfl rfl ?_
        clear hm a; intro a hm
        refine s_off hm rfl rfl rfl rfl ?_
        clear hm a; intro a hm
        refine s_off hm rfl rfl rfl rfl ?_
        clear hm a; intro a hm
        refine s_off hm rfl rfl rfl rfl ?_
        clear hm a; intro a hm
        refine s_off hm rfl rfl rfl rfl ?_
        clear hm a; intro a hm
        refine s_pick_f hm rfl rfl rfl rfl ?_
        clear hm a; intro a hm
        refine s_move hm rfl rfl ?_
        clear hm a; intro a hm
        refine s_off hm rfl rfl rfl rfl ?_
        clear hm a; intro a hm
        refine s_off hm rfl rfl rfl rfl ?_
        clear hm a; intro a hm
        refine s_off hm rfl rfl rfl rfl ?_
        clear hm a; intro a hm
        refine s_off hm rfl rfl rfl rfl ?_
        clear hm a; intro a hm
        refine s_off hm rfl rfl rfl rfl ?_
        clear hm a; intro a hm
        refine s_pick_f hm rfl rfl rfl rfl ?_
        clear hm a; intro a hm
        refine s_move hm rfl rfl ?_
        clear hm a; intro a hm
        refine s_off hm rfl rfl rfl rfl ?_
        clear hm a; intro a hm
        refine s_off hm rfl rfl rfl rfl ?_
        clear hm a; intro a hm
        refine s_off hm rfl rfl rfl rfl ?_
        clear hm a; intro a hm
        refine s_off hm rfl rfl rfl rfl ?_
        clear hm a; intro a hm
        refine s_off hm rfl rfl rfl rfl ?_
        clear hm a; intro a hm
        refine s_pick_f hm rfl rfl rfl rfl ?_
        clear hm a; intro a hm
        refine s_move hm rfl rfl ?_
        clear hm a; intro a hm
        refine s_off hm rfl rfl rfl rfl ?_
        clear hm a; intro a hm
        refine s_off hm rfl rfl rfl rfl ?_
        clear hm a; intro a hm
        refine s_off hm rfl rfl rfl rfl ?_
        clear hm a; intro a hm
        refine s_off hm rfl rfl rfl rfl ?_
        clear hm a; intro a hm
        refine s_off hm rfl rfl rfl rfl ?_
        clear hm a; intro a hm
        refine s_off hm rfl rfl rfl rfl ?_
        clear hm a; intro a hm
        refine s_off hm rfl rfl rfl rfl ?_
        clear hm a; intro a hm
        refine s_pick_f hm rfl rfl rfl rfl ?_
        clear hm a; intro a hm
        refine s_move hm rfl rfl ?_
        clear hm a; intro a hm
        refine s_off hm rfl rfl rfl rfl ?_
        clear hm a; intro a hm
        refine s_off hm rfl rfl rfl rfl ?_
        clear hm a; intro a hm
        refine s_off hm rfl rfl rfl rfl ?_
        clear hm a; intro a hm
        refine s_off hm rfl rfl rfl rfl ?_
        clear hm a; intro a hm
        refine s_off hm rfl rfl rfl rfl ?_
        clear hm a; intro a hm
        refine s_pick_f hm rfl rfl rfl rfl ?_
        clear hm a; intro a hm
        refine s_move hm rfl rfl ?_
        clear hm a; intro a hm
        refine s_off hm rfl rfl rfl rfl ?_
        clear hm a; intro a hm
        refine s_off hm rfl rfl rfl rfl ?_
        clear hm a; intro a hm
        refine s_off hm rfl rfl rfl rfl ?_
        clear hm a; intro a hm
        refine s_off hm rfl rfl rfl rfl ?_
        clear hm a; intro a hm
        refine s_off hm rfl rfl rfl rfl ?_
        clear hm a; intro a hm
        refine s_pick_f hm rfl rfl rfl rfl ?_
        clear hm a; intro a hm
        refine s_move hm rfl rfl ?_
        clear hm a; intro a hm
        refine s_off hm rfl rfl rfl rfl ?_
        clear hm a; intro a hm
        refine s_off hm rfl rfl rfl rfl ?_
        clear hm a; intro a hm
        refine s_off hm rfl rfl rfl rfl ?_
        clear hm a; intro a hm
        refine s_off hm rfl rfl rfl rfl ?_
        clear hm a; intro a hm
        refine s_off hm rfl rfl rfl rfl ?_
        clear hm a; intro a hm
        refine s_pick_f hm rfl rfl rfl rfl ?_
        clear hm a; intro a hm
        refine s_move hm rfl rfl ?_
        clear hm a; intro a hm
        refine s_off hm rfl rfl rfl rfl ?_
        clear hm a; intro a hm
        refine s_off hm rfl rfl rfl rfl ?_
        clear hm a; intro a hm
        refine s_off hm rfl rfl rfl rfl ?_
        clear hm a; intro a hm
        refine s_off hm rfl rfl rfl rfl ?_
        clear hm a; intro a hm
        refine s_off hm rfl rfl rfl rfl ?_
        clear hm a; intro a hm
        refine s_pick_f hm rfl rfl rfl rfl ?_
        clear hm a; intro a hm
        refine s_move hm rfl rfl ?_
        clear hm a; intro a hm
        refine s_off hm rfl rfl rfl rfl ?_
        clear hm a; intro a hm
        refine s_off hm rfl rfl rfl rfl ?_
        clear hm a; intro a hm
        refine s_off hm rfl rfl rfl rfl ?_
        clear hm a; intro a hm
        refine s_off hm rfl rfl rfl rfl ?_
        clear hm a; intro a hm
        refine s_off hm rfl rfl rfl rfl ?_
        clear hm a; intro a hm
        refine s_pick_f hm rfl rfl rfl rfl ?_
        clear hm a; intro a hm
        refine s_move hm rfl rfl ?_
        clear hm a; intro a hm
        refine s_off hm rfl rfl rfl rfl ?_
        clear hm a; intro a hm
        refine s_off hm rfl rfl rfl rfl ?_
        clear hm a; intro a hm
        refine s_off hm rfl rfl rfl rfl ?_
        clear hm a; intro a hm
        refine s_off hm rfl rfl rfl rfl ?_
        clear hm a; intro a hm
        refine s_off hm rfl rfl rfl rfl ?_
        clear hm a; intro a hm
        refine s_pick_f hm rfl rfl rfl rfl ?_
        clear hm a; intro a hm
        refine s_assign hm rfl rfl ?_
        clear hm a; intro a hm
        refine wpList_nil ?_
        replace hm : Fr 131 a [(4, .bool false)] := hm.keep [4]
        refine x_then_n (hKJ_5 _ _ ?_)
        refine wp_ret ?_
        obtain rfl := Option.some.inj H
        exact f_ret hm (rs := [.tmp 4]) rfl (.tmp rfl .nil) ⟨_, rfl, Mem.no, rfl, (Sep.sel hS [0] (by decide))⟩
    · rw [if_neg hc_7] at H
      refine s_off hm rfl rfl rfl (beq_eq_false_iff_ne.2 hc_7) ?_
      clear hm a; intro a hm
      refine s_off hm rfl rfl rfl (beq_eq_false_iff_ne.2 hc_7) ?_
      clear hm a; intro a hm
      refine s_off hm rfl rfl rfl (beq_eq_false_iff_ne.2 hc_7) ?_
      clear hm a; intro a hm
      refine s_off hm rfl rfl rfl (beq_eq_false_iff_ne.2 hc_7) ?_
      clear hm a; intro a hm
      refine s_off hm rfl rfl rfl (beq_eq_false_iff_ne.2 hc_7) ?_
      clear hm a; intro a hm
      refine s_pick_f hm rfl rfl (beq_eq_false_iff_ne.2 hc_7) rfl ?_
      clear hm a; intro a hm
      refine s_move hm rfl rfl ?_
      clear hm a; intro a hm
      refine s_off hm rfl rfl rfl rfl ?_
      clear hm a; intro a hm
      refine s_off hm rfl rfl rfl rfl ?_
      clear hm a; intro a hm
      refine s_off hm rfl rfl rfl rfl ?_
      clear hm a; intro a hm
      refine s_off hm rfl rfl rfl rfl ?_
      clear hm a; intro a hm
      refine s_off hm rfl rfl rfl rfl ?_
      clear hm a; intro a hm
      refine s_pick_f hm rfl rfl rfl rfl ?_
      clear hm a; intro a hm
      refine s_move hm rfl rfl ?_
      clear hm a; intro a hm
      refine s_off hm rfl rfl rfl rfl ?_
      clear hm a; intro a hm
      refine s_off hm rfl rfl rfl rfl ?_
      clear hm a; intro a hm
      refine s_off hm rfl rfl rfl rfl ?_
      clear hm a; intro a hm
      refine s_off hm rfl rfl rfl rfl ?_
      clear hm a; intro a hm
      refine s_off hm rfl rfl rfl rfl ?_
      clear hm a; intro a hm
      refine s_pick_f hm rfl rfl rfl rfl ?_
      clear hm a; intro a hm
      refine s_move hm rfl rfl ?_
      clear hm a; intro a hm
      refine s_off hm rfl rfl rfl rfl ?_
      clear hm a; intro a hm
      refine s_off hm rfl rfl rfl rfl ?_
      clear hm a; intro a hm
      refine s_off hm rfl rfl rfl rfl ?_
      clear hm a; intro a hm
      refine s_off hm rfl rfl rfl rfl ?_
      clear hm a; intro a hm
      refine s_off hm rfl rfl rfl rfl ?_
      clear hm a; intro a hm
      refine s_pick_f hm rfl rfl rfl rfl ?_
      clear hm a; intro a hm
      refine s_move hm rfl rfl ?_
      clear hm a; intro a hm
      refine s_off hm rfl rfl rfl rfl ?_
      clear hm a; intro a hm
      refine s_off hm rfl rfl rfl rfl ?_
      clear hm a; intro a hm
      refine s_off hm rfl rfl rfl rfl ?_
      clear hm a; intro a hm
      refine s_off hm rfl rfl rfl rfl ?_
      clear hm a; intro a hm
      refine s_off hm rfl rfl rfl rfl ?_
      clear hm a; intro a hm
      refine s_pick_f hm rfl rfl rfl rfl ?_
      clear hm a; intro a hm
      refine s_move hm rfl rfl ?_
      clear hm a; intro a hm
      refine s_off hm rfl rfl rfl rfl ?_
      clear hm a; intro a hm
      refine s_off hm rfl rfl rfl rfl ?_
      clear hm a; intro a hm
      refine s_off hm rfl rfl rfl rfl ?_
      clear hm a; intro a hm
      refine s_off hm rfl rfl rfl rfl ?_
      clear hm a; intro a hm
      refine s_off hm rfl rfl rfl rfl ?_
      clear hm a; intro a hm
      refine s_pick_f hm rfl rfl rfl rfl ?_
      clear hm a; intro a hm
      refine s_move hm rfl rfl ?_
      clear hm a; intro a hm
      refine s_off hm rfl rfl rfl rfl ?_
      clear hm a; intro a hm
      refine s_off hm rfl rfl rfl rfl ?_
      clear hm a; intro a hm
      refine s_off hm rfl rfl rfl rfl ?_
      clear hm a; intro a hm
      refine s_off hm rfl rfl rfl rfl ?_
      clear hm a; intro a hm
      refine s_off hm rfl rfl rfl rfl ?_
      clear hm a; intro a hm
      refine s_pick_f hm rfl rfl rfl rfl ?_
      clear hm a; intro a hm
      refine s_move hm rfl rfl ?_
      clear hm a; intro a hm
      refine s_off hm rfl rfl rfl rfl ?_
      clear hm a; intro a hm
      refine s_off hm rfl rfl rfl rfl ?_
      clear hm a; intro a hm
      refine s_off hm rfl rfl rfl rfl ?_
      clear hm a; intro a hm
      refine s_off hm rfl rfl rfl rfl ?_
      clear hm a; intro a hm
      refine s_off hm rfl rfl rfl rfl ?_
      clear hm a; intro a hm
      refine s_pick_f hm rfl rfl rfl rfl ?_
      clear hm a; intro a hm
      refine s_move hm rfl rfl ?_
      clear hm a; intro a hm
      refine s_off hm rfl rfl rfl rfl ?_
      clear hm a; intro a hm
      refine s_off hm rfl rfl rfl rfl ?_
      clear hm a; intro a hm
      refine s_off hm rfl rfl rfl rfl ?_
      clear hm a; intro a hm
      refine s_off hm rfl rfl rfl rfl ?_
      clear hm a; intro a hm
      refine s_off hm rfl rfl rfl rfl ?_
      clear hm a; intro a hm
      refine s_pick_f hm rfl rfl rfl rfl ?_
      clear hm a; intro a hm
      refine s_move hm rfl rfl ?_
      clear hm a; intro a hm
      refine s_off hm rfl rfl rfl rfl ?_
      clear hm a; intro a hm
      refine s_off hm rfl rfl rfl rfl ?_
      clear hm a; intro a hm
      refine s_off hm rfl rfl rfl rfl ?_
      clear hm a; intro a hm
      refine s_off hm rfl rfl rfl rfl ?_
      clear hm a; intro a hm
      refine s_off hm rfl rfl rfl rfl ?_
      clear hm a; intro a hm
      refine s_off hm rfl rfl rfl rfl ?_
      clear hm a; intro a hm
      refine s_off hm rfl rfl rfl rfl ?_
      clear hm a; intro a hm
      refine s_pick_f hm rfl rfl rfl rfl ?_
      clear hm a; intro a hm
      refine s_move hm rfl rfl ?_
      clear hm a; intro a hm
      refine s_off hm rfl rfl rfl rfl ?_
      clear hm a; intro a hm
      refine s_off hm rfl rfl rfl rfl ?_
      clear hm a; intro a hm
      refine s_off hm rfl rfl rfl rfl ?_
      clear hm a; intro a hm
      refine s_off hm rfl rfl rfl rfl ?_
      clear hm a; intro a hm
      refine s_off hm rfl rfl rfl rfl ?_
      clear hm a; intro a hm
      refine s_pick_f hm rfl rfl rfl rfl ?_
      clear hm a; intro a hm
      refine s_move hm rfl rfl ?_
      clear hm a; intro a hm
      refine s_off hm rfl rfl rfl rfl ?_
      clear hm a; intro a hm
      refine s_off hm rfl rfl rfl rfl ?_
      clear hm a; intro a hm
      refine s_off hm rfl rfl rfl rfl ?_
      clear hm a; intro a hm
      refine s_off hm rfl rfl rfl rfl ?_
      clear hm a; intro a hm
      refine s_off hm rfl rfl rfl rfl ?_
      clear hm a; intro a hm
      refine s_pick_f hm rfl rfl rfl rfl ?_
      clear hm a; intro a hm
      refine s_move hm rfl rfl ?_
      clear hm a; intro a hm
      refine s_off hm rfl rfl rfl rfl ?_
      clear hm a; intro a hm
      refine s_off hm rfl rfl rfl rfl ?_
      clear hm a; intro a hm
      refine s_off hm rfl rfl rfl rfl ?_
      clear hm a; intro a hm
      refine s_off hm rfl rfl rfl rfl ?_
      clear hm a; intro a hm
      refine s_off hm rfl rfl rfl rfl ?_
      clear hm a; intro a hm
      refine s_pick_f hm rfl rfl rfl rfl ?_
      clear hm a; intro a hm
      refine s_move hm rfl rfl ?_
      clear hm a; intro a hm
      refine s_off hm rfl rfl rfl rfl ?_
      clear hm a; intro a hm
      refine s_off hm rfl rfl rfl rfl ?_
      clear hm a; intro a hm
      refine s_off hm rfl rfl rfl rfl ?_
      clear hm a; intro a hm
      refine s_off hm rfl rfl rfl rfl ?_
      clear hm a; intro a hm
      refine s_off hm rfl rfl rfl rfl ?_
      clear hm a; intro a hm
      refine s_pick_f hm rfl rfl rfl rfl ?_
      clear hm a; intro a hm
      refine s_move hm rfl rfl ?_
      clear hm a; intro a hm
      refine s_off hm rfl rfl rfl rfl ?_
      clear hm a; intro a hm
      refine s_off hm rfl rfl rfl rfl ?_
      clear hm a; intro a hm
      refine s_off hm rfl rfl rfl rfl ?_
      clear hm a; intro a hm
      refine s_off hm rfl rfl rfl rfl ?_
      clear hm a; intro a hm
      refine s_off hm rfl rfl rfl rfl ?_
      clear hm a; intro a hm
      refine s_pick_f hm rfl rfl rfl rfl ?_
      clear hm a; intro a hm
      refine s_move hm rfl rfl ?_
      clear hm a; intro a hm
      refine s_off hm rfl rfl rfl rfl ?_
      clear hm a; intro a hm
      refine s_off hm rfl rfl rfl rfl ?_
      clear hm a; intro a hm
      refine s_off hm rfl rfl rfl rfl ?_
      clear hm a; intro a hm
      refine s_off hm rfl rfl rfl rfl ?_
      clear hm a; intro a hm
      refine s_off hm rfl rfl rfl rfl ?_
      clear hm a; intro a hm
      refine s_pick_f hm rfl rfl rfl rfl ?_
      clear hm a; intro a hm
      refine s_assign hm rfl rfl ?_
      clear hm a; intro a hm
      refine wpList_nil ?_
      replace hm : Fr 131 a [(4, .bool false)] := hm.keep [4]
      refine x_then_n (hKJ_5 _ _ ?_)
      refine wp_ret ?_
      obtain rfl := Option.some.inj H
      exact f_ret hm (rs := [.tmp 4]) rfl (.tmp rfl .nil) ⟨_, rfl, Mem.no, rfl, (Sep.sel hS [0] (by decide))⟩
  · rw [if_neg hc_6] at H
    refine s_off hm rfl rfl rfl (beq_eq_false_iff_ne.2 hc_6) ?_
    clear hm a; intro a hm
    refine s_off hm rfl rfl rfl (beq_eq_false_iff_ne.2 hc_6) ?_
    clear hm a; intro a hm
    refine s_off hm rfl rfl rfl (beq_eq_false_iff_ne.2 hc_6) ?_
    clear hm a; intro a hm
    refine s_off hm rfl rfl rfl (beq_eq_false_iff_ne.2 hc_6) ?_
    clear hm a; intro a hm
    refine s_off hm rfl rfl rfl (beq_eq_false_iff_ne.2 hc_6) ?_
    clear hm a; intro a hm
    refine s_pick_f hm rfl rfl (beq_eq_false_iff_ne.2 hc_6) rfl ?_
    clear hm a; intro a hm
    refine s_move hm rfl rfl ?_
    clear hm a; intro a hm
    refine s_off hm rfl rfl rfl rfl ?_
    clear hm a; intro a hm
    refine s_off hm rfl rfl rfl rfl ?_
    clear hm a; intro a hm
    refine s_off hm rfl rfl rfl rfl ?_
    clear hm a; intro a hm
    refine s_off hm rfl rfl rfl rfl ?_
    clear hm a; intro a hm
    refine s_off hm rfl rfl rfl rfl ?_
    clear hm a; intro a hm
    refine s_pick_f hm rfl rfl rfl rfl ?_
    clear hm a; intro a hm
    refine s_move hm rfl rfl ?_
    clear hm a; intro a hm
    refine s_off hm rfl rfl rfl rfl ?_
    clear hm a; intro a hm
    refine s_off hm rfl rfl rfl rfl ?_
    clear hm a; intro a hm
    refine s_off hm rfl rfl rfl rfl ?_
    clear hm a; intro a hm
    refine s_off hm rfl rfl rfl rfl ?_
    clear hm a; intro a hm
    refine s_off hm rfl rfl rfl rfl ?_
    clear hm a; intro a hm
    refine s_pick_f hm rfl rfl rfl rfl ?_
    clear hm a; intro a hm
    refine s_move hm rfl rfl ?_
    clear hm a; intro a hm
    refine s_off hm rfl rfl rfl rfl ?_
    clear hm a; intro a hm
    refine s_off hm rfl rfl rfl rfl ?_
    clear hm a; intro a hm
    refine s_off hm rfl rfl rfl rfl ?_
    clear hm a; intro a hm
    refine s_off hm rfl rfl rfl rfl ?_
    clear hm a; intro a hm
    refine s_off hm rfl rfl rfl rfl ?_
    clear hm a; intro a hm
    refine s_pick_f hm rfl rfl rfl rfl ?_
    clear hm a; intro a hm
    refine s_move hm rfl rfl ?_
    clear hm a; intro a hm
    refine s_off hm rfl rfl rfl rfl ?_
    clear hm a; intro a hm
    refine s_off hm rfl rfl rfl rfl ?_
    clear hm a; intro a hm
    refine s_off hm rfl rfl rfl rfl ?_
    clear hm a; intro a hm
    refine s_off hm rfl rfl rfl rfl ?_
    clear hm a; intro a hm
    refine s_off hm rfl rfl rfl rfl ?_
    clear hm a; intro a hm
    refine s_pick_f hm rfl rfl rfl rfl ?_
    clear hm a; intro a hm
    refine s_move hm rfl rfl ?_
    clear hm a; intro a hm
    refine s_off hm rfl rfl rfl rfl ?_
    clear hm a; intro a hm
    refine s_off hm rfl rfl rfl rfl ?_
    clear hm a; intro a hm
    refine s_off hm rfl rfl rfl rfl ?_
    clear hm a; intro a hm
    refine s_off hm rfl rfl rfl rfl ?_
    clear hm a; intro a hm
    refine s_off hm rfl rfl rfl rfl ?_
    clear hm a; intro a hm
    refine s_pick_f hm rfl rfl rfl rfl ?_
    clear hm a; intro a hm
    refine s_move hm rfl rfl ?_
    clear hm a; intro a hm
    refine s_off hm rfl rfl rfl rfl ?_
    clear hm a; intro a hm
    refine s_off hm rfl rfl rfl rfl ?_
    clear hm a; intro a hm
    refine s_off hm rfl rfl rfl rfl ?_
    clear hm a; intro a hm
    refine s_off hm rfl rfl rfl rfl ?_
    clear hm a; intro a hm
    refine s_off hm rfl rfl rfl rfl ?_
    clear hm a; intro a hm
    refine s_pick_f hm rfl rfl rfl rfl ?_
    clear hm a; intro a hm
    refine s_move hm rfl rfl ?_
    clear hm a; intro a hm
    refine s_off hm rfl rfl rfl rfl ?_
    clear hm a; intro a hm
    refine s_off hm rfl rfl rfl rfl ?_
    clear hm a; intro a hm
    refine s_off hm rfl rfl rfl rfl ?_
    clear hm a; intro a hm
    refine s_off hm rfl rfl rfl rfl ?_
    clear hm a; intro a hm
    refine s_off hm rfl rfl rfl rfl ?_
    clear hm a; intro a hm
    refine s_pick_f hm rfl rfl rfl rfl ?_
    clear hm a; intro a hm
    refine s_move hm rfl rfl ?_
    clear hm a; intro a hm
    refine s_off hm rfl rfl rfl rfl ?_
    clear hm a; intro a hm
    refine s_off hm rfl rfl rfl rfl ?_
    clear hm a; intro a hm
    refine s_off hm rfl rfl rfl rfl ?_
    clear hm a; intro a hm
    refine s_off hm rfl rfl rfl rfl ?_
    clear hm a; intro a hm
    refine s_off hm rfl rfl rfl rfl ?_
    clear hm a; intro a hm
    refine s_pick_f hm rfl rfl rfl rfl ?_
    clear hm a; intro a hm
    refine s_move hm rfl rfl ?_
    clear hm a; intro a hm
    refine s_off hm rfl rfl rfl rfl ?_
    clear hm a; intro a hm
    refine s_off hm rfl rfl rfl rfl ?_
    clear hm a; intro a hm
    refine s_off hm rfl rfl rfl rfl ?_
    clear hm a; intro a hm
    refine s_off hm rfl rfl rfl rfl ?_
    clear hm a; intro a hm
    refine s_off hm rfl rfl rfl rfl ?_
    clear hm a; intro a hm
    refine s_pick_f hm rfl rfl rfl rfl ?_
    clear hm a; intro a hm
    refine s_move hm rfl rfl ?_
    clear hm a; intro a hm
    refine s_off hm rfl rfl rfl rfl ?_
    clear hm a; intro a hm
    refine s_off hm rfl rfl rfl rfl ?_
    clear hm a; intro a hm
    refine s_off hm rfl rfl rfl rfl ?_
    clear hm a; intro a hm
    refine s_off hm rfl rfl rfl rfl ?_
    clear hm a; intro a hm
    refine s_off hm rfl rfl rfl rfl ?_
    clear hm a; intro a hm
    refine s_off hm rfl rfl rfl rfl ?_
    clear hm a; intro a hm
    refine s_off hm rfl rfl rfl rfl ?_
    clear hm a; intro a hm
    refine s_pick_f hm rfl rfl rfl rfl ?_
    clear hm a; intro a hm
    refine s_move hm rfl rfl ?_
    clear hm a; intro a hm
    refine s_off hm rfl rfl rfl rfl ?_
    clear hm a; intro a hm
    refine s_off hm rfl rfl rfl rfl ?_
    clear hm a; intro a hm
    refine s_off hm rfl rfl rfl rfl ?_
    clear hm a; intro a hm
    refine s_off hm rfl rfl rfl rfl ?_
    clear hm a; intro a hm
    refine s_off hm rfl rfl rfl rfl ?_
    clear hm a; intro a hm
    refine s_pick_f hm rfl rfl rfl rfl ?_
    clear hm a; intro a hm
    refine s_move hm rfl rfl ?_
    clear hm a; intro a hm
    refine s_off hm rfl rfl rfl rfl ?_
    clear hm a; intro a hm
    refine s_off hm rfl rfl rfl rfl ?_
    clear hm a; intro a hm
    refine s_off hm rfl rfl rfl rfl ?_
    clear hm a; intro a hm
    refine s_off hm rfl rfl rfl rfl ?_
    clear hm a; intro a hm
    refine s_off hm rfl rfl rfl rfl ?_
    clear hm a; intro a hm
    refine s_pick_f hm rfl rfl rfl rfl ?_
    clear hm a; intro a hm
    refine s_move hm rfl rfl ?_
    clear hm a; intro a hm
    refine s_off hm rfl rfl rfl rfl ?_
    clear hm a; intro a hm
    refine s_off hm rfl rfl rfl rfl ?_
    clear hm a; intro a hm
    refine s_off hm rfl rfl rfl rfl ?_
    clear hm a; intro a hm
    refine s_off hm rfl rfl rfl rfl ?_
    clear hm a; intro a hm
    refine s_off hm rfl rfl rfl rfl ?_
    clear hm a; intro a hm
    refine s_pick_f hm rfl rfl rfl rfl ?_
    clear hm a; intro a hm
    refine s_move hm rfl rfl ?_
    clear hm a; intro a hm
    refine s_off hm rfl rfl rfl rfl ?_
    clear hm a; intro a hm
    refine s_off hm rfl rfl rfl rfl ?_
    clear hm a; intro a hm
    refine s_off hm rfl rfl rfl rfl ?_
    clear hm a; intro a hm
    refine s_off hm rfl rfl rfl rfl ?_
    clear hm a; intro a hm
    refine s_off hm rfl rfl rfl rfl ?_
    clear hm a; intro a hm
    refine s_pick_f hm rfl rfl rfl rfl ?_
    clear hm a; intro a hm
    refine s_move hm rfl rfl ?_
    clear hm a; intro a hm
    refine s_off hm rfl rfl rfl rfl ?_
    clear hm a; intro a hm
    refine s_off hm rfl rfl rfl rfl ?_
    clear hm a; intro a hm
    refine s_off hm rfl rfl rfl rfl ?_
    clear hm a; intro a hm
    refine s_off hm rfl rfl rfl rfl ?_
    clear hm a; intro a hm
    refine s_off hm rfl rfl rfl rfl ?_
    clear hm a; intro a hm
    refine s_pick_f hm rfl rfl rfl rfl ?_
    clear hm a; intro a hm
    refine s_move hm rfl rfl ?_
    clear hm a; intro a hm
    refine s_off hm rfl rfl rfl rfl ?_
    clear hm a; intro a hm
    refine s_off hm rfl rfl rfl rfl ?_
    clear hm a; intro a hm
    refine s_off hm rfl rfl rfl rfl ?_
    clear hm a; intro a hm
    refine s_off hm rfl rfl rfl rfl ?_
    clear hm a; intro a hm
    refine s_off hm rfl rfl rfl rfl ?_
    clear hm a; intro a hm
    refine s_pick_f hm rfl rfl rfl rfl ?_
    clear hm a; intro a hm
    refine s_assign hm rfl rfl ?_
    clear hm a; intro a hm
    refine wpList_nil ?_
    replace hm : Fr 131 a [(4, .bool false)] := hm.keep [4]
    refine x_then_n (hKJ_5 _ _ ?_)
    refine wp_ret ?_
    obtain rfl := Option.some.inj H
    exact f_ret hm (rs := [.tmp 4]) rfl (.tmp rfl .nil) ⟨_, rfl, Mem.no, rfl, (Sep.sel hS [0] (by decide))⟩

set_option maxHeartbeats 4000000 in
set_option maxRecDepth 20000 in
theorem hocketlaw17_Token_1.calls (x0 : Int) (g1 : Nat) (x1_ : List Int) (p1_0 : Value) (r : Int) (w0 w : World) (Z A : Mem) (hA : A.le Z) (hS : Sep w0 w [Mem.one g1 (.cells ([p1_0] : List Value).toArray 23 (0, 0))] Z) (hp1_0 : Rd (Kd.int .i64) A p1_0 x1_)
    (H : hocketlaw17_Token_1.f x0 x1_ = some r) :
    Calls Try.prog 65 [.int .i64 x0, .pointer (some ⟨g1, 0, none⟩)].toArray w (Ret fun v w' => ∃ (N : Mem), v = .int .i64 r ∧ Sep w0 w' [N, Mem.one g1 (.cells ([p1_0] : List Value).toArray 23 (0, 0))] Z) := by
  unfold hocketlaw17_Token_1.f at H
  refine f_enter _ Try.func65 rfl Try.ntmps65 rfl fun a hm => ?_
  replace hm : Fr 14 a [(0, .int .i64 x0), (1, .pointer (some ⟨g1, 0, none⟩))] := hm
  replace hS := hS.start
  replace hS : Sep w0 w [Mem.no, Mem.one g1 (.cells ([p1_0] : List Value).toArray 23 (0, 0))] Z := hS
  refine wp_seq ?_
  refine wp_region_lit ?_
  refine s_assign hm rfl rfl ?_
  clear hm a; intro a hm
  refine wpList_nil ?_
  replace hm : Fr 14 a [(0, .int .i64 x0), (1, .pointer (some ⟨g1, 0, none⟩)), (3, .int .i64 0)] := hm.keep [0, 1, 3]
  refine x_then_n ?_
  refine c_seq fun KJ_1 hKJ_1 => ?_
  refine wp_seq ?_
  refine wp_region_lit ?_
  refine s_move hm rfl rfl ?_
  clear hm a; intro a hm
  refine s_load hm rfl rfl (hS.load_one (p := 1) rfl Try.underlying23 rfl rfl) ?_
  clear hm a; intro a hm
  refine s_len hm rfl Try.underlying23 rfl hp1_0 ?_
  clear hm a; intro a hm
  refine s_cmp (b := decide (x0 < (x1_.length : Int))) hm rfl rfl rfl (.inr (.inr (.inl ⟨rfl, rfl⟩))) ?_
  clear hm a; intro a hm
  refine wpList_nil ?_
  replace hm : Fr 14 a [(0, .int .i64 x0), (1, .pointer (some ⟨g1, 0, none⟩)), (3, .int .i64 0), (7, .bool (decide (x0 < (x1_.length : Int))))] := hm.keep [0, 1, 3, 7]
  refine x_then_n ?_
  by_cases hc_2 : x0 < (x1_.length : Int)
  · rw [if_pos hc_2] at H
    refine c_cond_t hm rfl (decide_eq_true hc_2) ?_
    refine wp_seq ?_
    refine wp_region_lit ?_
    refine s_load hm rfl rfl (hS.load_one (p := 1) rfl Try.underlying23 rfl rfl) ?_
    clear hm a; intro a hm
    refine s_move hm rfl rfl ?_
    clear hm a; intro a hm
    obtain ⟨t_3, et_3, H⟩ := Option.bind_eq_some_iff.1 H
    refine v_index hm rfl Try.underlying23 ti3 rfl rfl rfl hp1_0 (hA.trans hS.old) et_3 ?_
    intro ad_4 cs_5 hk_6 hc_7
    obtain rfl := (show cs_5 = [.int .i64 t_3] from hk_6)
    clear hm a; intro a hm
    refine s_load hm rfl rfl (el_one (o := 0) hc_7 Try.underlying3 rfl rfl) ?_
    clear hm a; intro a hm
    refine s_assign hm rfl rfl ?_
    clear hm a; intro a hm
    refine wpList_nil ?_
    replace hm : Fr 14 a [(0, .int .i64 x0), (3, .int .i64 t_3)] := hm.keep [0, 3]
    refine x_then_n ?_
    refine wp_ret (x_then_r ?_)
    obtain rfl := Option.some.inj H
    exact f_ret hm (rs := [.tmp 3]) rfl (.tmp rfl .nil) ⟨_, rfl, Mem.no, rfl, (Sep.sel hS [0, 1] (by decide))⟩
  · rw [if_neg hc_2] at H
    refine c_cond_f hm rfl (decide_eq_false hc_2) ?_
    refine wp_skip ?_
    refine x_then_n (hKJ_1 _ _ ?_)
    refine wp_seq ?_
    refine wp_region_lit ?_
    refine s_move hm rfl rfl ?_
    clear hm a; intro a hm
    refine s_arith (r := w64 (x0 * 37)) hm rfl rfl rfl (.inr (.inr ⟨rfl, rfl⟩)) ?_
    clear hm a; intro a hm
    refine s_assign hm rfl rfl ?_
    clear hm a; intro a hm
    refine wpList_nil ?_
    replace hm : Fr 14 a [(3, .int .i64 (w64 (x0 * 37)))] := hm.keep [3]
    refine x_then_n ?_
    refine wp_ret ?_
    obtain rfl := Option.some.inj H
    exact f_ret hm (rs := [.tmp 3]) rfl (.tmp rfl .nil) ⟨_, rfl, Mem.no, rfl, (Sep.sel hS [0, 1] (by decide))⟩


end Go.Proofs
