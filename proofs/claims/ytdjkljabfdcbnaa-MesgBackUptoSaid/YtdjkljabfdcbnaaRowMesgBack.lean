/- The law MesgBack returns true at every input, and its arguments read as before; under no condition but the statement's own -/
import Derived.Test.YtdjkljabfdcbnaaRows
import Derived.WalkKit
import Derived.ProofKit
import Derived.OpenShut
import Derived.ShutString
import Derived.ChangeOld
import Derived.Below
import Derived.SizedLaws
import Derived.Carry
import Derived.Test.YtdjkljabfdcbnaaMesgBackc3
import Derived.Test.YtdjkljabfdcbnaaLd
import Derived.Test.YtdjkljabfdcbnaaThInts
import Derived.Test.YtdjkljabfdcbnaaThPack
import Derived.Test.YtdjkljabfdcbnaaThMesg
import Derived.Test.YtdjkljabfdcbnaaThMesg2
import Derived.Test.YtdjkljabfdcbnaaThMesg3
import Derived.Test.YtdjkljabfdcbnaaThMesg4
import Derived.Test.YtdjkljabfdcbnaaThMesg5
import Derived.Test.YtdjkljabfdcbnaaThMesg6
import Derived.Test.YtdjkljabfdcbnaaThMsg
import Derived.Test.YtdjkljabfdcbnaaThMesg7
import Derived.Test.YtdjkljabfdcbnaaThMesg8
import Derived.Test.YtdjkljabfdcbnaaThMesgS
import Derived.Test.YtdjkljabfdcbnaaThPack1
import Derived.Test.YtdjkljabfdcbnaaThMesg9
import Derived.Test.YtdjkljabfdcbnaaThMesg10
import Derived.Test.YtdjkljabfdcbnaaPureMesg
import Derived.Test.YtdjkljabfdcbnaaPureMesg2
namespace Go.Proofs.Ytdjkljabfdcbnaa.mesgBack
open Go.ChangeShapes Go.WideShapes Go.ChangeAt Go.RowKit Go.Gp
set_option linter.unusedVariables false
theorem own : ownKnob Try.prog.godebug = none := by kernel_rfl
theorem laidOut : laidOutB Try.prog = true := by kernel_rfl
theorem bulkAll_mem {H : Type} {d : DataW H} {l : List (DataW H)} (h : d ∈ l) : Rows.uptoBulk d ≤ Rows.uptoBulkAll l := by
  induction l with
  | nil => cases h
  | cons x r ih =>
    simp only [Rows.uptoBulkAll]
    rcases List.mem_cons.1 h with rfl | e
    · omega
    · have := ih e; omega
theorem bulk_pos {H : Type} (d : DataW H) : 1 ≤ Rows.uptoBulk d := by
  cases d with
  | lit l => cases l <;> simp [Rows.uptoBulk]
  | _ => simp [Rows.uptoBulk]
theorem bulkAll_len {H : Type} (l : List (DataW H)) : l.length ≤ Rows.uptoBulkAll l := by
  induction l with
  | nil => simp [Rows.uptoBulkAll]
  | cons x r ih => have := bulk_pos x; simp only [Rows.uptoBulkAll, List.length_cons]; omega
theorem bulk : Bulk (fun {H : Type} (d : DataW H) => Rows.uptoBulk d) where
  sl := fun es rs => ⟨by have := bulkAll_len es; simp only [Rows.uptoBulk]; omega, fun e he => by have := bulkAll_mem he; simp only [Rows.uptoBulk]; omega⟩
  ag := fun ps e he => by have := bulkAll_mem he; simp only [Rows.uptoBulk]; omega
set_option maxHeartbeats 4000000 in
set_option maxRecDepth 100000 in
theorem lifted (os : Os) (started : os.Started) (H : Type) (enc : TypeId × Value → H) (F : Stop.Interp) :
    ReturnsInHanded {} Try.checked os 6 .any ((Rows.OpenSpec.upto Rows.mesgBackSpec).pre6 enc Try.prog Try.f6 Rows.mesgBackUptoRow.domain false) (((Rows.OpenSpec.upto Rows.mesgBackSpec).at F).post enc Try.prog Try.f6 false true false false) := by
  refine returnsInHanded_of_cond_sized (C := Try.checked) (s := (Rows.OpenSpec.upto Rows.mesgBackSpec)) (k := Rows.uptoSmall) rfl own started (by kernel_rfl) Try.func6
    (OpenSpec.witness (enc := enc) (C := Try.checked) (s := (Rows.OpenSpec.upto Rows.mesgBackSpec)) (k := Rows.uptoSmall) rfl false ⟨#[], #[.agg [(.int .i64 0), (.int .i64 0), (.int .i64 0), (.int .i64 0), (.int .i64 0), (.int .i64 0), (.bool false), (.int .i64 0), (.int .i64 0), (.int .i64 0), (.int .i64 0), (.slice none 0 0), (.int .i64 0), (.int .i64 0), (.slice none 0 0), (.slice none 0 0), (.int .i64 0), (.int .i64 0), (.int .i64 0), (.int .i64 0), (.int .i64 0), (.slice none 0 0), (.slice none 0 0), (.slice none 0 0)].toArray, .int .i64 0, .int .i64 0, .slice none 0 0], []⟩ 8 (by kernel_rfl) (by kernel_rfl) (by kernel_rfl) (x := ([.agg [.lit (.int .i64 0), .lit (.int .i64 0), .lit (.int .i64 0), .lit (.int .i64 0), .lit (.int .i64 0), .lit (.int .i64 0), .lit (.bool false), .lit (.int .i64 0), .lit (.int .i64 0), .lit (.int .i64 0), .lit (.int .i64 0), .nil, .lit (.int .i64 0), .lit (.int .i64 0), .nil, .nil, .lit (.int .i64 0), .agg [.lit (.int .i64 0), .lit (.int .i64 0), .agg [.lit (.int .i64 0), .lit (.int .i64 0), .nil, .nil, .nil]]], .lit (.int .i64 0), .lit (.int .i64 0), .nil], [], [])) (by kernel_rfl) rfl (by kernel_rfl)) ?_
  intro W base args ds gs before hval0 hW hcnd hkk hsz0 _
  have hB : Rows.uptoBulkAll (ds ++ gs) ≤ 1048576 := of_decide_eq_true hkk
  clear hkk
  have hsz : (DataW.weightsEach Try.prog (Try.f6.params.toList ++ Rows.mesgBackSpec.plain.varTypes Try.prog) (ds ++ gs)).all (· ≤ reachBytes) = true := hsz0
  have hval : ∀ (j : Nat) t v, Try.f6.params[j]? = some t → args[j]? = some v → Value.okWide Try.prog W .any base t v := hval0
  have hW' := hW
  obtain ⟨p, q, hA0, hV, rfl, hfz, hnd⟩ := hW
  have hA : DataW.TrodAll enc Try.prog W 0 (fun _ => true) true Try.f6.params.toList args.toList ds p := hA0
  rw [Try.params6] at hA hval hsz
  obtain ⟨v0, vs0, d0, ds0, p0, q0, hargs, rfl, rfl, h0, r0⟩ := trodAll_cons hA
  obtain ⟨v1, vs1, d1, ds1, p1, q1, rfl, rfl, rfl, h1, r1⟩ := trodAll_cons r0
  obtain ⟨v2, vs2, d2, ds2, p2, q2, rfl, rfl, rfl, h2, r2⟩ := trodAll_cons r1
  obtain ⟨v3, vs3, d3, ds3, p3, q3, rfl, rfl, rfl, h3, r3⟩ := trodAll_cons r2
  obtain ⟨rfl, rfl, rfl⟩ := trodAll_nil r3
  obtain rfl : args = #[v0, v1, v2, v3] := by cases args; simp_all
  obtain ⟨rfl, rfl⟩ := trodVars_none hV
  simp only [List.append_nil, Rows.uptoBulkAll] at hB
  have lt0 := trod_lt' h0
  have z0 : ∀ m ∈ d0.weights Try.prog 29, m ≤ reachBytes := fun m hm => by simpa using List.all_eq_true.1 hsz m (DataW.weights_mem_each (j := 0) (t := 29) rfl rfl m hm)
  obtain ⟨x0, K0, o0⟩ := arg_trodb (b := fun {H : Type} (d : DataW H) => Rows.uptoBulk d) (B := 1048576) (show TRb (fun {H : Type} (d : DataW H) => Rows.uptoBulk d) 1048576 Try.prog 29 k_api_Msg okU_api_Msg from trb_struct bulk (fun x : api_Msg => (x.Kind, (x.From, (x.To, (x.View, (x.Inst, (x.Len, (x.Has, (x.Members, (x.Source, (x.At, (x.Total, (x.Data, (x.Hop, (x.Seq, (x.Have, (x.Need, (x.Index, x.Entry)))))))))))))))))) (fun u => (⟨u.1, u.2.1, u.2.2.1, u.2.2.2.1, u.2.2.2.2.1, u.2.2.2.2.2.1, u.2.2.2.2.2.2.1, u.2.2.2.2.2.2.2.1, u.2.2.2.2.2.2.2.2.1, u.2.2.2.2.2.2.2.2.2.1, u.2.2.2.2.2.2.2.2.2.2.1, u.2.2.2.2.2.2.2.2.2.2.2.1, u.2.2.2.2.2.2.2.2.2.2.2.2.1, u.2.2.2.2.2.2.2.2.2.2.2.2.2.1, u.2.2.2.2.2.2.2.2.2.2.2.2.2.2.1, u.2.2.2.2.2.2.2.2.2.2.2.2.2.2.2.1, u.2.2.2.2.2.2.2.2.2.2.2.2.2.2.2.2.1, u.2.2.2.2.2.2.2.2.2.2.2.2.2.2.2.2.2⟩ : api_Msg)) (fun _ => rfl) Try.underlying29 (by kernel_rfl) (trsb_cons rfl (by kernel_rfl) (TR.bulk (tr_int Try.underlying3)) (trsb_cons rfl (by kernel_rfl) (TR.bulk (tr_int Try.underlying3)) (trsb_cons rfl (by kernel_rfl) (TR.bulk (tr_int Try.underlying3)) (trsb_cons rfl (by kernel_rfl) (TR.bulk (tr_int Try.underlying3)) (trsb_cons rfl (by kernel_rfl) (TR.bulk (tr_int Try.underlying3)) (trsb_cons rfl (by kernel_rfl) (TR.bulk (tr_int Try.underlying3)) (trsb_cons rfl (by kernel_rfl) (TR.bulk (tr_bool Try.underlying4)) (trsb_cons rfl (by kernel_rfl) (TR.bulk (tr_int Try.underlying3)) (trsb_cons rfl (by kernel_rfl) (TR.bulk (tr_int Try.underlying3)) (trsb_cons rfl (by kernel_rfl) (TR.bulk (tr_int Try.underlying3)) (trsb_cons rfl (by kernel_rfl) (TR.bulk (tr_int Try.underlying3)) (trsb_cons rfl (by kernel_rfl) (trb_slice bulk Try.underlying23 (by kernel_rfl) (TR.bulk (tr_u8 Try.underlying5))) (trsb_cons rfl (by kernel_rfl) (TR.bulk (tr_int Try.underlying3)) (trsb_cons rfl (by kernel_rfl) (TR.bulk (tr_int Try.underlying3)) (trsb_cons rfl (by kernel_rfl) (trb_slice bulk Try.underlying22 (by kernel_rfl) (TR.bulk (tr_int Try.underlying3))) (trsb_cons rfl (by kernel_rfl) (trb_slice bulk Try.underlying22 (by kernel_rfl) (TR.bulk (tr_int Try.underlying3))) (trsb_cons rfl (by kernel_rfl) (TR.bulk (tr_int Try.underlying3)) (trsb_one rfl (by kernel_rfl) (show TRb (fun {H : Type} (d : DataW H) => Rows.uptoBulk d) 1048576 Try.prog 27 k_api_Entry okU_api_Entry from trb_struct bulk (fun x : api_Entry => (x.Sess, (x.Seq, x.Cmd))) (fun u => (⟨u.1, u.2.1, u.2.2⟩ : api_Entry)) (fun _ => rfl) Try.underlying27 (by kernel_rfl) (trsb_cons rfl (by kernel_rfl) (TR.bulk (tr_int Try.underlying3)) (trsb_cons rfl (by kernel_rfl) (TR.bulk (tr_int Try.underlying3)) (trsb_one rfl (by kernel_rfl) (show TRb (fun {H : Type} (d : DataW H) => Rows.uptoBulk d) 1048576 Try.prog 25 k_api_Cmd okU_api_Cmd from trb_struct bulk (fun x : api_Cmd => (x.Kind, (x.Who, (x.Key, (x.Val, x.Old))))) (fun u => (⟨u.1, u.2.1, u.2.2.1, u.2.2.2.1, u.2.2.2.2⟩ : api_Cmd)) (fun _ => rfl) Try.underlying25 (by kernel_rfl) (trsb_cons rfl (by kernel_rfl) (TR.bulk (tr_int Try.underlying3)) (trsb_cons rfl (by kernel_rfl) (TR.bulk (tr_int Try.underlying3)) (trsb_cons rfl (by kernel_rfl) (trb_slice bulk Try.underlying23 (by kernel_rfl) (TR.bulk (tr_u8 Try.underlying5))) (trsb_cons rfl (by kernel_rfl) (trb_slice bulk Try.underlying23 (by kernel_rfl) (TR.bulk (tr_u8 Try.underlying5))) (trsb_one rfl (by kernel_rfl) (trb_slice bulk Try.underlying23 (by kernel_rfl) (TR.bulk (tr_u8 Try.underlying5)))))))))))))))))))))))))))))))) h0 z0 (by omega)
  obtain ⟨c0, rfl, _⟩ := okWide_struct Try.underlying29 (hval 0 29 v0 rfl rfl)
  obtain ⟨v0_11, v0_14, v0_15, v0_21, v0_22, v0_23, e0, R0_11, R0_14, R0_15, R0_21, R0_22, R0_23⟩ := k_api_Msg.open' (show k_api_Msg.K _ x0 c0.toList from K0)
  obtain rfl : c0 = [.int .i64 (x0.Kind), .int .i64 (x0.From), .int .i64 (x0.To), .int .i64 (x0.View), .int .i64 (x0.Inst), .int .i64 (x0.Len), .bool (x0.Has), .int .i64 (x0.Members), .int .i64 (x0.Source), .int .i64 (x0.At), .int .i64 (x0.Total), v0_11, .int .i64 (x0.Hop), .int .i64 (x0.Seq), v0_14, v0_15, .int .i64 (x0.Index), .int .i64 (x0.Entry.Sess), .int .i64 (x0.Entry.Seq), .int .i64 (x0.Entry.Cmd.Kind), .int .i64 (x0.Entry.Cmd.Who), v0_21, v0_22, v0_23].toArray := by rw [← Array.toArray_toList (xs := c0), e0]
  have lt1 := trod_lt' h1
  have z1 : ∀ m ∈ d1.weights Try.prog 3, m ≤ reachBytes := fun m hm => by simpa using List.all_eq_true.1 hsz m (DataW.weights_mem_each (j := 1) (t := 3) rfl rfl m hm)
  obtain ⟨x1, K1, o1⟩ := arg_trodb (b := fun {H : Type} (d : DataW H) => Rows.uptoBulk d) (B := 1048576) (TR.bulk (tr_int Try.underlying3)) h1 z1 (by omega)
  obtain ⟨n1, rfl⟩ := okWide_int Try.underlying3 (hval 1 3 v1 rfl rfl)
  obtain rfl : x1 = n1 := by symm; have e : (Value.cells (.int .i64 n1)).toList = [.int .i64 x1] := K1; simpa [Value.cells] using e
  have lt2 := trod_lt' h2
  have z2 : ∀ m ∈ d2.weights Try.prog 3, m ≤ reachBytes := fun m hm => by simpa using List.all_eq_true.1 hsz m (DataW.weights_mem_each (j := 2) (t := 3) rfl rfl m hm)
  obtain ⟨x2, K2, o2⟩ := arg_trodb (b := fun {H : Type} (d : DataW H) => Rows.uptoBulk d) (B := 1048576) (TR.bulk (tr_int Try.underlying3)) h2 z2 (by omega)
  obtain ⟨n2, rfl⟩ := okWide_int Try.underlying3 (hval 2 3 v2 rfl rfl)
  obtain rfl : x2 = n2 := by symm; have e : (Value.cells (.int .i64 n2)).toList = [.int .i64 x2] := K2; simpa [Value.cells] using e
  have lt3 := trod_lt' h3
  have z3 : ∀ m ∈ d3.weights Try.prog 23, m ≤ reachBytes := fun m hm => by simpa using List.all_eq_true.1 hsz m (DataW.weights_mem_each (j := 3) (t := 23) rfl rfl m hm)
  obtain ⟨x3, K3, o3⟩ := arg_trodb (b := fun {H : Type} (d : DataW H) => Rows.uptoBulk d) (B := 1048576) (trb_slice bulk Try.underlying23 (by kernel_rfl) (TR.bulk (tr_u8 Try.underlying5))) h3 z3 (by omega)
  obtain ⟨a3, len3, cap3, rfl⟩ := okWide_slice Try.underlying23 (hval 3 23 v3 rfl rfl)
  obtain ⟨y3, e3, R3⟩ := K3
  obtain rfl : .slice a3 len3 cap3 = y3 := by simpa [Value.cells] using e3
  clear hA0 hval0 hsz0 hsz
  obtain ⟨K, r, HK⟩ := hocketlaw11_MesgBack.pure x0 x1 x2 x3 o0 o1 o2 o3
  refine (hocketlaw11_MesgBack.calls K x0 _ _ _ _ _ _ x1 x2 x3 _ r W W (hp W) (hp W) (Mem.le.refl _) (sep_start W) R0_11 R0_14 R0_15 R0_21 R0_22 R0_23 R3 HK).mono fun e W' ⟨v, he, N, hv, hS⟩ => ?_
  have bel := below_of_sep hS
  subst he hv
  exact ⟨_, rfl, _, _, _, [], _, [], hW', trodAll_mk1 (shut_bool Try.underlying4 _), (trodAll_cons_mk (Below.trod laidOut (by kernel_rfl) (of_decide_eq_true (by kernel_rfl)) h0 bel lt0) (trodAll_cons_mk (Below.trod laidOut (by kernel_rfl) (of_decide_eq_true (by kernel_rfl)) h1 bel lt1) (trodAll_cons_mk (Below.trod laidOut (by kernel_rfl) (of_decide_eq_true (by kernel_rfl)) h2 bel lt2) (trodAll_cons_mk (Below.trod laidOut (by kernel_rfl) (of_decide_eq_true (by kernel_rfl)) h3 bel lt3) trodAll_mk0)))), rfl, bel.frame _, fun h => by cases h⟩
theorem over : Rows.mesgBackUptoRow.holds Try.pinned (Rows.OpenSpec.upto Rows.mesgBackSpec) :=
  OpenClaim.holds_of_cond 6 Try.f6 rfl rfl rfl rfl rfl rfl rfl ⟨rfl, rfl, rfl, rfl, rfl⟩ rfl rfl rfl rfl rfl (by kernel_rfl) Try.func6 (by kernel_rfl)
    (of_decide_eq_true (by kernel_rfl)) (by unfold Func.isWrapper; first | (rw [if_pos (by decide +kernel)]; kernel_rfl) | (rw [if_neg (by decide +kernel)]; exact ⟨rfl, rfl⟩))
    (fun os started H enc _ F => lifted os started H enc F)
theorem proved : Rows.MesgBackUptoSaid := over
#print axioms proved
end Go.Proofs.Ytdjkljabfdcbnaa.mesgBack
namespace Go.Proofs.Ytdjkljabfdcbnaa
/-- The row, under a short name, for the claim. -/
theorem mesgBack_holds : Rows.MesgBackUptoSaid := mesgBack.proved
end Go.Proofs.Ytdjkljabfdcbnaa
