/- The law GathPlays returns true at every input, and its arguments read as before; under no condition but the statement's own -/
import Derived.Test.YtdfhpaojkmnnfaaRows
import Derived.WalkKit
import Derived.ProofKit
import Derived.OpenShut
import Derived.ShutString
import Derived.ChangeOld
import Derived.Below
import Derived.SizedLaws
import Derived.Carry
import Derived.Test.YtdfhpaojkmnnfaaGathPlaysc5
import Derived.Test.YtdfhpaojkmnnfaaLd
import Derived.Test.YtdfhpaojkmnnfaaThInts
import Derived.Test.YtdfhpaojkmnnfaaThView
import Derived.Test.YtdfhpaojkmnnfaaThView2
import Derived.Test.YtdfhpaojkmnnfaaThMsg
import Derived.Test.YtdfhpaojkmnnfaaThGath
import Derived.Test.YtdfhpaojkmnnfaaPureGath4
namespace Go.Proofs.Ytdfhpaojkmnnfaa.gathPlays
open Go.ChangeShapes Go.WideShapes Go.ChangeAt Go.RowKit Go.Gp
set_option linter.unusedVariables false
theorem own : ownKnob Try.prog.godebug = none := by kernel_rfl
theorem laidOut : laidOutB Try.prog = true := by kernel_rfl
set_option maxHeartbeats 4000000 in
set_option maxRecDepth 100000 in
theorem lifted (os : Os) (started : os.Started) (H : Type) (enc : TypeId × Value → H) :
    ReturnsInHanded {} Try.checked os 3 .any (Rows.gathPlaysSpec.pre6 enc Try.prog Try.f3 Rows.gathPlaysRow.domain false) (Rows.gathPlaysSpec.post enc Try.prog Try.f3 false true false false) := by
  refine returnsInHanded_of_change_sized (C := Try.checked) own started (by kernel_rfl) Try.func3
    (ChangeSpec.witness6 (enc := enc) (C := Try.checked) false ⟨#[], #[.int .i64 0, .int .i64 0, .agg [(.int .i64 0), (.int .i64 0), (.int .i64 0), (.int .i64 0), (.int .i64 0), (.int .i64 0), (.bool false), (.int .i64 0), (.int .i64 0), (.int .i64 0), (.int .i64 0), (.slice none 0 0), (.int .i64 0), (.int .i64 0), (.slice none 0 0), (.slice none 0 0), (.int .i64 0), (.int .i64 0), (.int .i64 0), (.int .i64 0), (.int .i64 0), (.slice none 0 0), (.slice none 0 0), (.slice none 0 0)].toArray, .slice none 0 0, .slice none 0 0], []⟩ 8 (by kernel_rfl) (by kernel_rfl) (by kernel_rfl) (by kernel_rfl)) ?_
  intro W base args ds gs before hval0 hW hcnd hsz0 _
  have hsz : (DataW.weightsEach Try.prog (Try.f3.params.toList ++ Rows.gathPlaysSpec.plain.varTypes Try.prog) (ds ++ gs)).all (· ≤ reachBytes) = true := hsz0
  have hval : ∀ (j : Nat) t v, Try.f3.params[j]? = some t → args[j]? = some v → Value.okWide Try.prog W .any base t v := hval0
  have hW' := hW
  obtain ⟨p, q, hA0, hV, rfl, hfz, hnd⟩ := hW
  have hA : DataW.TrodAll enc Try.prog W 0 (fun _ => true) true Try.f3.params.toList args.toList ds p := hA0
  rw [Try.params3] at hA hval hsz
  obtain ⟨v0, vs0, d0, ds0, p0, q0, hargs, rfl, rfl, h0, r0⟩ := trodAll_cons hA
  obtain ⟨v1, vs1, d1, ds1, p1, q1, rfl, rfl, rfl, h1, r1⟩ := trodAll_cons r0
  obtain ⟨v2, vs2, d2, ds2, p2, q2, rfl, rfl, rfl, h2, r2⟩ := trodAll_cons r1
  obtain ⟨v3, vs3, d3, ds3, p3, q3, rfl, rfl, rfl, h3, r3⟩ := trodAll_cons r2
  obtain ⟨v4, vs4, d4, ds4, p4, q4, rfl, rfl, rfl, h4, r4⟩ := trodAll_cons r3
  obtain ⟨rfl, rfl, rfl⟩ := trodAll_nil r4
  obtain rfl : args = #[v0, v1, v2, v3, v4] := by cases args; simp_all
  obtain ⟨rfl, rfl⟩ := trodVars_none hV
  have lt0 := trod_lt' h0
  have z0 : ∀ m ∈ d0.weights Try.prog 3, m ≤ reachBytes := fun m hm => by simpa using List.all_eq_true.1 hsz m (DataW.weights_mem_each (j := 0) (t := 3) rfl rfl m hm)
  obtain ⟨x0, K0, o0⟩ := arg_trod (tr_int Try.underlying3) h0 z0
  obtain ⟨n0, rfl⟩ := okWide_int Try.underlying3 (hval 0 3 v0 rfl rfl)
  obtain rfl : x0 = n0 := by symm; have e : (Value.cells (.int .i64 n0)).toList = [.int .i64 x0] := K0; simpa [Value.cells] using e
  have lt1 := trod_lt' h1
  have z1 : ∀ m ∈ d1.weights Try.prog 3, m ≤ reachBytes := fun m hm => by simpa using List.all_eq_true.1 hsz m (DataW.weights_mem_each (j := 1) (t := 3) rfl rfl m hm)
  obtain ⟨x1, K1, o1⟩ := arg_trod (tr_int Try.underlying3) h1 z1
  obtain ⟨n1, rfl⟩ := okWide_int Try.underlying3 (hval 1 3 v1 rfl rfl)
  obtain rfl : x1 = n1 := by symm; have e : (Value.cells (.int .i64 n1)).toList = [.int .i64 x1] := K1; simpa [Value.cells] using e
  have lt2 := trod_lt' h2
  have z2 : ∀ m ∈ d2.weights Try.prog 29, m ≤ reachBytes := fun m hm => by simpa using List.all_eq_true.1 hsz m (DataW.weights_mem_each (j := 2) (t := 29) rfl rfl m hm)
  obtain ⟨x2, K2, o2⟩ := arg_trod (show TR Try.prog 29 k_api_Msg ok_api_Msg from tr_struct (fun x : api_Msg => (x.Kind, (x.From, (x.To, (x.View, (x.Inst, (x.Len, (x.Has, (x.Members, (x.Source, (x.At, (x.Total, (x.Data, (x.Hop, (x.Seq, (x.Have, (x.Need, (x.Index, x.Entry)))))))))))))))))) (fun u => (⟨u.1, u.2.1, u.2.2.1, u.2.2.2.1, u.2.2.2.2.1, u.2.2.2.2.2.1, u.2.2.2.2.2.2.1, u.2.2.2.2.2.2.2.1, u.2.2.2.2.2.2.2.2.1, u.2.2.2.2.2.2.2.2.2.1, u.2.2.2.2.2.2.2.2.2.2.1, u.2.2.2.2.2.2.2.2.2.2.2.1, u.2.2.2.2.2.2.2.2.2.2.2.2.1, u.2.2.2.2.2.2.2.2.2.2.2.2.2.1, u.2.2.2.2.2.2.2.2.2.2.2.2.2.2.1, u.2.2.2.2.2.2.2.2.2.2.2.2.2.2.2.1, u.2.2.2.2.2.2.2.2.2.2.2.2.2.2.2.2.1, u.2.2.2.2.2.2.2.2.2.2.2.2.2.2.2.2.2⟩ : api_Msg)) (fun _ => rfl) Try.underlying29 (by kernel_rfl) (trs_cons rfl (by kernel_rfl) (tr_int Try.underlying3) (trs_cons rfl (by kernel_rfl) (tr_int Try.underlying3) (trs_cons rfl (by kernel_rfl) (tr_int Try.underlying3) (trs_cons rfl (by kernel_rfl) (tr_int Try.underlying3) (trs_cons rfl (by kernel_rfl) (tr_int Try.underlying3) (trs_cons rfl (by kernel_rfl) (tr_int Try.underlying3) (trs_cons rfl (by kernel_rfl) (tr_bool Try.underlying4) (trs_cons rfl (by kernel_rfl) (tr_int Try.underlying3) (trs_cons rfl (by kernel_rfl) (tr_int Try.underlying3) (trs_cons rfl (by kernel_rfl) (tr_int Try.underlying3) (trs_cons rfl (by kernel_rfl) (tr_int Try.underlying3) (trs_cons rfl (by kernel_rfl) (tr_slice Try.underlying22 (by kernel_rfl) (by kernel_rfl) (tr_u8 Try.underlying5)) (trs_cons rfl (by kernel_rfl) (tr_int Try.underlying3) (trs_cons rfl (by kernel_rfl) (tr_int Try.underlying3) (trs_cons rfl (by kernel_rfl) (tr_slice Try.underlying23 (by kernel_rfl) (by kernel_rfl) (tr_int Try.underlying3)) (trs_cons rfl (by kernel_rfl) (tr_slice Try.underlying23 (by kernel_rfl) (by kernel_rfl) (tr_int Try.underlying3)) (trs_cons rfl (by kernel_rfl) (tr_int Try.underlying3) (trs_one rfl (by kernel_rfl) (show TR Try.prog 27 k_api_Entry ok_api_Entry from tr_struct (fun x : api_Entry => (x.Sess, (x.Seq, x.Cmd))) (fun u => (⟨u.1, u.2.1, u.2.2⟩ : api_Entry)) (fun _ => rfl) Try.underlying27 (by kernel_rfl) (trs_cons rfl (by kernel_rfl) (tr_int Try.underlying3) (trs_cons rfl (by kernel_rfl) (tr_int Try.underlying3) (trs_one rfl (by kernel_rfl) (show TR Try.prog 25 k_api_Cmd ok_api_Cmd from tr_struct (fun x : api_Cmd => (x.Kind, (x.Who, (x.Key, (x.Val, x.Old))))) (fun u => (⟨u.1, u.2.1, u.2.2.1, u.2.2.2.1, u.2.2.2.2⟩ : api_Cmd)) (fun _ => rfl) Try.underlying25 (by kernel_rfl) (trs_cons rfl (by kernel_rfl) (tr_int Try.underlying3) (trs_cons rfl (by kernel_rfl) (tr_int Try.underlying3) (trs_cons rfl (by kernel_rfl) (tr_slice Try.underlying22 (by kernel_rfl) (by kernel_rfl) (tr_u8 Try.underlying5)) (trs_cons rfl (by kernel_rfl) (tr_slice Try.underlying22 (by kernel_rfl) (by kernel_rfl) (tr_u8 Try.underlying5)) (trs_one rfl (by kernel_rfl) (tr_slice Try.underlying22 (by kernel_rfl) (by kernel_rfl) (tr_u8 Try.underlying5))))))))))))))))))))))))))))))) h2 z2
  obtain ⟨c2, rfl, _⟩ := okWide_struct Try.underlying29 (hval 2 29 v2 rfl rfl)
  obtain ⟨v2_11, v2_14, v2_15, v2_21, v2_22, v2_23, e2, R2_11, R2_14, R2_15, R2_21, R2_22, R2_23⟩ := k_api_Msg.open' (show k_api_Msg.K _ x2 c2.toList from K2)
  obtain rfl : c2 = [.int .i64 (x2.Kind), .int .i64 (x2.From), .int .i64 (x2.To), .int .i64 (x2.View), .int .i64 (x2.Inst), .int .i64 (x2.Len), .bool (x2.Has), .int .i64 (x2.Members), .int .i64 (x2.Source), .int .i64 (x2.At), .int .i64 (x2.Total), v2_11, .int .i64 (x2.Hop), .int .i64 (x2.Seq), v2_14, v2_15, .int .i64 (x2.Index), .int .i64 (x2.Entry.Sess), .int .i64 (x2.Entry.Seq), .int .i64 (x2.Entry.Cmd.Kind), .int .i64 (x2.Entry.Cmd.Who), v2_21, v2_22, v2_23].toArray := by rw [← Array.toArray_toList (xs := c2), e2]
  have lt3 := trod_lt' h3
  have z3 : ∀ m ∈ d3.weights Try.prog 23, m ≤ reachBytes := fun m hm => by simpa using List.all_eq_true.1 hsz m (DataW.weights_mem_each (j := 3) (t := 23) rfl rfl m hm)
  obtain ⟨x3, K3, o3⟩ := arg_trod (tr_slice Try.underlying23 (by kernel_rfl) (by kernel_rfl) (tr_int Try.underlying3)) h3 z3
  obtain ⟨a3, len3, cap3, rfl⟩ := okWide_slice Try.underlying23 (hval 3 23 v3 rfl rfl)
  obtain ⟨y3, e3, R3⟩ := K3
  obtain rfl : .slice a3 len3 cap3 = y3 := by simpa [Value.cells] using e3
  have lt4 := trod_lt' h4
  have z4 : ∀ m ∈ d4.weights Try.prog 30, m ≤ reachBytes := fun m hm => by simpa using List.all_eq_true.1 hsz m (DataW.weights_mem_each (j := 4) (t := 30) rfl rfl m hm)
  obtain ⟨x4, K4, o4⟩ := arg_trod (tr_slice Try.underlying30 (by kernel_rfl) (by kernel_rfl) (show TR Try.prog 29 k_api_Msg ok_api_Msg from tr_struct (fun x : api_Msg => (x.Kind, (x.From, (x.To, (x.View, (x.Inst, (x.Len, (x.Has, (x.Members, (x.Source, (x.At, (x.Total, (x.Data, (x.Hop, (x.Seq, (x.Have, (x.Need, (x.Index, x.Entry)))))))))))))))))) (fun u => (⟨u.1, u.2.1, u.2.2.1, u.2.2.2.1, u.2.2.2.2.1, u.2.2.2.2.2.1, u.2.2.2.2.2.2.1, u.2.2.2.2.2.2.2.1, u.2.2.2.2.2.2.2.2.1, u.2.2.2.2.2.2.2.2.2.1, u.2.2.2.2.2.2.2.2.2.2.1, u.2.2.2.2.2.2.2.2.2.2.2.1, u.2.2.2.2.2.2.2.2.2.2.2.2.1, u.2.2.2.2.2.2.2.2.2.2.2.2.2.1, u.2.2.2.2.2.2.2.2.2.2.2.2.2.2.1, u.2.2.2.2.2.2.2.2.2.2.2.2.2.2.2.1, u.2.2.2.2.2.2.2.2.2.2.2.2.2.2.2.2.1, u.2.2.2.2.2.2.2.2.2.2.2.2.2.2.2.2.2⟩ : api_Msg)) (fun _ => rfl) Try.underlying29 (by kernel_rfl) (trs_cons rfl (by kernel_rfl) (tr_int Try.underlying3) (trs_cons rfl (by kernel_rfl) (tr_int Try.underlying3) (trs_cons rfl (by kernel_rfl) (tr_int Try.underlying3) (trs_cons rfl (by kernel_rfl) (tr_int Try.underlying3) (trs_cons rfl (by kernel_rfl) (tr_int Try.underlying3) (trs_cons rfl (by kernel_rfl) (tr_int Try.underlying3) (trs_cons rfl (by kernel_rfl) (tr_bool Try.underlying4) (trs_cons rfl (by kernel_rfl) (tr_int Try.underlying3) (trs_cons rfl (by kernel_rfl) (tr_int Try.underlying3) (trs_cons rfl (by kernel_rfl) (tr_int Try.underlying3) (trs_cons rfl (by kernel_rfl) (tr_int Try.underlying3) (trs_cons rfl (by kernel_rfl) (tr_slice Try.underlying22 (by kernel_rfl) (by kernel_rfl) (tr_u8 Try.underlying5)) (trs_cons rfl (by kernel_rfl) (tr_int Try.underlying3) (trs_cons rfl (by kernel_rfl) (tr_int Try.underlying3) (trs_cons rfl (by kernel_rfl) (tr_slice Try.underlying23 (by kernel_rfl) (by kernel_rfl) (tr_int Try.underlying3)) (trs_cons rfl (by kernel_rfl) (tr_slice Try.underlying23 (by kernel_rfl) (by kernel_rfl) (tr_int Try.underlying3)) (trs_cons rfl (by kernel_rfl) (tr_int Try.underlying3) (trs_one rfl (by kernel_rfl) (show TR Try.prog 27 k_api_Entry ok_api_Entry from tr_struct (fun x : api_Entry => (x.Sess, (x.Seq, x.Cmd))) (fun u => (⟨u.1, u.2.1, u.2.2⟩ : api_Entry)) (fun _ => rfl) Try.underlying27 (by kernel_rfl) (trs_cons rfl (by kernel_rfl) (tr_int Try.underlying3) (trs_cons rfl (by kernel_rfl) (tr_int Try.underlying3) (trs_one rfl (by kernel_rfl) (show TR Try.prog 25 k_api_Cmd ok_api_Cmd from tr_struct (fun x : api_Cmd => (x.Kind, (x.Who, (x.Key, (x.Val, x.Old))))) (fun u => (⟨u.1, u.2.1, u.2.2.1, u.2.2.2.1, u.2.2.2.2⟩ : api_Cmd)) (fun _ => rfl) Try.underlying25 (by kernel_rfl) (trs_cons rfl (by kernel_rfl) (tr_int Try.underlying3) (trs_cons rfl (by kernel_rfl) (tr_int Try.underlying3) (trs_cons rfl (by kernel_rfl) (tr_slice Try.underlying22 (by kernel_rfl) (by kernel_rfl) (tr_u8 Try.underlying5)) (trs_cons rfl (by kernel_rfl) (tr_slice Try.underlying22 (by kernel_rfl) (by kernel_rfl) (tr_u8 Try.underlying5)) (trs_one rfl (by kernel_rfl) (tr_slice Try.underlying22 (by kernel_rfl) (by kernel_rfl) (tr_u8 Try.underlying5)))))))))))))))))))))))))))))))) h4 z4
  obtain ⟨a4, len4, cap4, rfl⟩ := okWide_slice Try.underlying30 (hval 4 30 v4 rfl rfl)
  obtain ⟨y4, e4, R4⟩ := K4
  obtain rfl : .slice a4 len4 cap4 = y4 := by simpa [Value.cells] using e4
  clear hA0 hval0 hsz0 hsz
  obtain ⟨K, r, HK⟩ := hocketlaw18_GathPlays.pure x0 x1 x2 x3 x4 o0 o1 o2 o3 o4
  refine (hocketlaw18_GathPlays.calls K x0 x1 x2 _ _ _ _ _ _ x3 _ x4 _ r W W (hp W) (hp W) (Mem.le.refl _) (sep_start W) R2_11 R2_14 R2_15 R2_21 R2_22 R2_23 R3 R4 HK).mono fun e W' ⟨v, he, N, hv, hS⟩ => ?_
  have bel := below_of_sep hS
  subst he hv
  exact ⟨_, rfl, _, _, _, [], _, [], hW', trodAll_mk1 (shut_bool Try.underlying4 _), (trodAll_cons_mk (Below.trod laidOut (by kernel_rfl) (of_decide_eq_true (by kernel_rfl)) h0 bel lt0) (trodAll_cons_mk (Below.trod laidOut (by kernel_rfl) (of_decide_eq_true (by kernel_rfl)) h1 bel lt1) (trodAll_cons_mk (Below.trod laidOut (by kernel_rfl) (of_decide_eq_true (by kernel_rfl)) h2 bel lt2) (trodAll_cons_mk (Below.trod laidOut (by kernel_rfl) (of_decide_eq_true (by kernel_rfl)) h3 bel lt3) (trodAll_cons_mk (Below.trod laidOut (by kernel_rfl) (of_decide_eq_true (by kernel_rfl)) h4 bel lt4) trodAll_mk0))))), rfl, bel.frame _, fun h => by cases h⟩
theorem over : Rows.gathPlaysRow.holds Try.pinned (OpenSpec.ofChange Rows.gathPlaysSpec) :=
  OpenClaim.holds_of_wide 3 Try.f3 rfl rfl rfl rfl rfl rfl rfl ⟨rfl, rfl, rfl, rfl, rfl⟩ rfl rfl rfl rfl rfl (by kernel_rfl) Try.func3 (by kernel_rfl)
    (of_decide_eq_true (by kernel_rfl)) (by unfold Func.isWrapper; first | (rw [if_pos (by decide +kernel)]; kernel_rfl) | (rw [if_neg (by decide +kernel)]; exact ⟨rfl, rfl⟩))
    (fun os started H enc _ => lifted os started H enc)
theorem proved : Rows.GathPlaysSaid := over
#print axioms proved
end Go.Proofs.Ytdfhpaojkmnnfaa.gathPlays
namespace Go.Proofs.Ytdfhpaojkmnnfaa
/-- The row, under a short name, for the claim. -/
theorem gathPlays_holds : Rows.GathPlaysSaid := gathPlays.proved
end Go.Proofs.Ytdfhpaojkmnnfaa
