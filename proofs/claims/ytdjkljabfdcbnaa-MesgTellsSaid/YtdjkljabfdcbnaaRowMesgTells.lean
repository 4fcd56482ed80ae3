/- The law MesgTells returns true at every input, and its arguments read as before; under no condition but the statement's own -/
import Derived.Test.YtdjkljabfdcbnaaRows
import Derived.WalkKit
import Derived.ProofKit
import Derived.OpenShut
import Derived.ShutString
import Derived.ChangeOld
import Derived.Below
import Derived.SizedLaws
import Derived.Carry
import Derived.Test.YtdjkljabfdcbnaaMesgTellsc5
import Derived.Test.YtdjkljabfdcbnaaLd
import Derived.Test.YtdjkljabfdcbnaaThInts
import Derived.Test.YtdjkljabfdcbnaaThPack
import Derived.Test.YtdjkljabfdcbnaaThMesg
import Derived.Test.YtdjkljabfdcbnaaThMesg2
import Derived.Test.YtdjkljabfdcbnaaThMesg3
import Derived.Test.YtdjkljabfdcbnaaThMesg4
import Derived.Test.YtdjkljabfdcbnaaThMesg5
import Derived.Test.YtdjkljabfdcbnaaThMesg6
import Derived.Test.YtdjkljabfdcbnaaThMsg
import Derived.Test.YtdjkljabfdcbnaaThMesg7
import Derived.Test.YtdjkljabfdcbnaaThMesg8
import Derived.Test.YtdjkljabfdcbnaaThMesgS
import Derived.Test.YtdjkljabfdcbnaaThPack1
import Derived.Test.YtdjkljabfdcbnaaThMesg9
import Derived.Test.YtdjkljabfdcbnaaThMesg10
import Derived.Test.YtdjkljabfdcbnaaPureMesg
namespace Go.Proofs.Ytdjkljabfdcbnaa.mesgTells
open Go.ChangeShapes Go.WideShapes Go.ChangeAt Go.RowKit Go.Gp
set_option linter.unusedVariables false
theorem own : ownKnob Try.prog.godebug = none := by kernel_rfl
theorem laidOut : laidOutB Try.prog = true := by kernel_rfl
set_option maxHeartbeats 4000000 in
set_option maxRecDepth 100000 in
theorem lifted (os : Os) (started : os.Started) (H : Type) (enc : TypeId × Value → H) :
    ReturnsInHanded {} Try.checked os 5 .any (Rows.mesgTellsSpec.pre6 enc Try.prog Try.f5 Rows.mesgTellsRow.domain false) (Rows.mesgTellsSpec.post enc Try.prog Try.f5 false true false false) := by
  refine returnsInHanded_of_change_sized (C := Try.checked) own started (by kernel_rfl) Try.func5
    (ChangeSpec.witness6 (enc := enc) (C := Try.checked) false ⟨#[], #[.agg [(.int .i64 0), (.int .i64 0), (.int .i64 0), (.int .i64 0), (.int .i64 0), (.int .i64 0), (.bool false), (.int .i64 0), (.int .i64 0), (.int .i64 0), (.int .i64 0), (.slice none 0 0), (.int .i64 0), (.int .i64 0), (.slice none 0 0), (.slice none 0 0), (.int .i64 0), (.int .i64 0), (.int .i64 0), (.int .i64 0), (.int .i64 0), (.slice none 0 0), (.slice none 0 0), (.slice none 0 0)].toArray, .int .i64 0, .int .i64 0, .slice none 0 0, .int .i64 0, .int .u8 0], []⟩ 8 (by kernel_rfl) (by kernel_rfl) (by kernel_rfl) (by kernel_rfl)) ?_
  intro W base args ds gs before hval0 hW hcnd hsz0 _
  have hsz : (DataW.weightsEach Try.prog (Try.f5.params.toList ++ Rows.mesgTellsSpec.plain.varTypes Try.prog) (ds ++ gs)).all (· ≤ reachBytes) = true := hsz0
  have hval : ∀ (j : Nat) t v, Try.f5.params[j]? = some t → args[j]? = some v → Value.okWide Try.prog W .any base t v := hval0
  have hW' := hW
  obtain ⟨p, q, hA0, hV, rfl, hfz, hnd⟩ := hW
  have hA : DataW.TrodAll enc Try.prog W 0 (fun _ => true) true Try.f5.params.toList args.toList ds p := hA0
  rw [Try.params5] at hA hval hsz
  obtain ⟨v0, vs0, d0, ds0, p0, q0, hargs, rfl, rfl, h0, r0⟩ := trodAll_cons hA
  obtain ⟨v1, vs1, d1, ds1, p1, q1, rfl, rfl, rfl, h1, r1⟩ := trodAll_cons r0
  obtain ⟨v2, vs2, d2, ds2, p2, q2, rfl, rfl, rfl, h2, r2⟩ := trodAll_cons r1
  obtain ⟨v3, vs3, d3, ds3, p3, q3, rfl, rfl, rfl, h3, r3⟩ := trodAll_cons r2
  obtain ⟨v4, vs4, d4, ds4, p4, q4, rfl, rfl, rfl, h4, r4⟩ := trodAll_cons r3
  obtain ⟨v5, vs5, d5, ds5, p5, q5, rfl, rfl, rfl, h5, r5⟩ := trodAll_cons r4
  obtain ⟨rfl, rfl, rfl⟩ := trodAll_nil r5
  obtain rfl : args = #[v0, v1, v2, v3, v4, v5] := by cases args; simp_all
  obtain ⟨rfl, rfl⟩ := trodVars_none hV
  have lt0 := trod_lt' h0
  have z0 : ∀ m ∈ d0.weights Try.prog 29, m ≤ reachBytes := fun m hm => by simpa using List.all_eq_true.1 hsz m (DataW.weights_mem_each (j := 0) (t := 29) rfl rfl m hm)
  obtain ⟨x0, K0, o0⟩ := arg_trod (show TR Try.prog 29 k_api_Msg ok_api_Msg from tr_struct (fun x : api_Msg => (x.Kind, (x.From, (x.To, (x.View, (x.Inst, (x.Len, (x.Has, (x.Members, (x.Source, (x.At, (x.Total, (x.Data, (x.Hop, (x.Seq, (x.Have, (x.Need, (x.Index, x.Entry)))))))))))))))))) (fun u => (⟨u.1, u.2.1, u.2.2.1, u.2.2.2.1, u.2.2.2.2.1, u.2.2.2.2.2.1, u.2.2.2.2.2.2.1, u.2.2.2.2.2.2.2.1, u.2.2.2.2.2.2.2.2.1, u.2.2.2.2.2.2.2.2.2.1, u.2.2.2.2.2.2.2.2.2.2.1, u.2.2.2.2.2.2.2.2.2.2.2.1, u.2.2.2.2.2.2.2.2.2.2.2.2.1, u.2.2.2.2.2.2.2.2.2.2.2.2.2.1, u.2.2.2.2.2.2.2.2.2.2.2.2.2.2.1, u.2.2.2.2.2.2.2.2.2.2.2.2.2.2.2.1, u.2.2.2.2.2.2.2.2.2.2.2.2.2.2.2.2.1, u.2.2.2.2.2.2.2.2.2.2.2.2.2.2.2.2.2⟩ : api_Msg)) (fun _ => rfl) Try.underlying29 (by kernel_rfl) (trs_cons rfl (by kernel_rfl) (tr_int Try.underlying3) (trs_cons rfl (by kernel_rfl) (tr_int Try.underlying3) (trs_cons rfl (by kernel_rfl) (tr_int Try.underlying3) (trs_cons rfl (by kernel_rfl) (tr_int Try.underlying3) (trs_cons rfl (by kernel_rfl) (tr_int Try.underlying3) (trs_cons rfl (by kernel_rfl) (tr_int Try.underlying3) (trs_cons rfl (by kernel_rfl) (tr_bool Try.underlying4) (trs_cons rfl (by kernel_rfl) (tr_int Try.underlying3) (trs_cons rfl (by kernel_rfl) (tr_int Try.underlying3) (trs_cons rfl (by kernel_rfl) (tr_int Try.underlying3) (trs_cons rfl (by kernel_rfl) (tr_int Try.underlying3) (trs_cons rfl (by kernel_rfl) (tr_slice Try.underlying23 (by kernel_rfl) (by kernel_rfl) (tr_u8 Try.underlying5)) (trs_cons rfl (by kernel_rfl) (tr_int Try.underlying3) (trs_cons rfl (by kernel_rfl) (tr_int Try.underlying3) (trs_cons rfl (by kernel_rfl) (tr_slice Try.underlying22 (by kernel_rfl) (by kernel_rfl) (tr_int Try.underlying3)) (trs_cons rfl (by kernel_rfl) (tr_slice Try.underlying22 (by kernel_rfl) (by kernel_rfl) (tr_int Try.underlying3)) (trs_cons rfl (by kernel_rfl) (tr_int Try.underlying3) (trs_one rfl (by kernel_rfl) (show TR Try.prog 27 k_api_Entry ok_api_Entry from tr_struct (fun x : api_Entry => (x.Sess, (x.Seq, x.Cmd))) (fun u => (⟨u.1, u.2.1, u.2.2⟩ : api_Entry)) (fun _ => rfl) Try.underlying27 (by kernel_rfl) (trs_cons rfl (by kernel_rfl) (tr_int Try.underlying3) (trs_cons rfl (by kernel_rfl) (tr_int Try.underlying3) (trs_one rfl (by kernel_rfl) (show TR Try.prog 25 k_api_Cmd ok_api_Cmd from tr_struct (fun x : api_Cmd => (x.Kind, (x.Who, (x.Key, (x.Val, x.Old))))) (fun u => (⟨u.1, u.2.1, u.2.2.1, u.2.2.2.1, u.2.2.2.2⟩ : api_Cmd)) (fun _ => rfl) Try.underlying25 (by kernel_rfl) (trs_cons rfl (by kernel_rfl) (tr_int Try.underlying3) (trs_cons rfl (by kernel_rfl) (tr_int Try.underlying3) (trs_cons rfl (by kernel_rfl) (tr_slice Try.underlying23 (by kernel_rfl) (by kernel_rfl) (tr_u8 Try.underlying5)) (trs_cons rfl (by kernel_rfl) (tr_slice Try.underlying23 (by kernel_rfl) (by kernel_rfl) (tr_u8 Try.underlying5)) (trs_one rfl (by kernel_rfl) (tr_slice Try.underlying23 (by kernel_rfl) (by kernel_rfl) (tr_u8 Try.underlying5))))))))))))))))))))))))))))))) h0 z0
  obtain ⟨c0, rfl, _⟩ := okWide_struct Try.underlying29 (hval 0 29 v0 rfl rfl)
  obtain ⟨v0_11, v0_14, v0_15, v0_21, v0_22, v0_23, e0, R0_11, R0_14, R0_15, R0_21, R0_22, R0_23⟩ := k_api_Msg.open' (show k_api_Msg.K _ x0 c0.toList from K0)
  obtain rfl : c0 = [.int .i64 (x0.Kind), .int .i64 (x0.From), .int .i64 (x0.To), .int .i64 (x0.View), .int .i64 (x0.Inst), .int .i64 (x0.Len), .bool (x0.Has), .int .i64 (x0.Members), .int .i64 (x0.Source), .int .i64 (x0.At), .int .i64 (x0.Total), v0_11, .int .i64 (x0.Hop), .int .i64 (x0.Seq), v0_14, v0_15, .int .i64 (x0.Index), .int .i64 (x0.Entry.Sess), .int .i64 (x0.Entry.Seq), .int .i64 (x0.Entry.Cmd.Kind), .int .i64 (x0.Entry.Cmd.Who), v0_21, v0_22, v0_23].toArray := by rw [← Array.toArray_toList (xs := c0), e0]
  have lt1 := trod_lt' h1
  have z1 : ∀ m ∈ d1.weights Try.prog 3, m ≤ reachBytes := fun m hm => by simpa using List.all_eq_true.1 hsz m (DataW.weights_mem_each (j := 1) (t := 3) rfl rfl m hm)
  obtain ⟨x1, K1, o1⟩ := arg_trod (tr_int Try.underlying3) h1 z1
  obtain ⟨n1, rfl⟩ := okWide_int Try.underlying3 (hval 1 3 v1 rfl rfl)
  obtain rfl : x1 = n1 := by symm; have e : (Value.cells (.int .i64 n1)).toList = [.int .i64 x1] := K1; simpa [Value.cells] using e
  have lt2 := trod_lt' h2
  have z2 : ∀ m ∈ d2.weights Try.prog 3, m ≤ reachBytes := fun m hm => by simpa using List.all_eq_true.1 hsz m (DataW.weights_mem_each (j := 2) (t := 3) rfl rfl m hm)
  obtain ⟨x2, K2, o2⟩ := arg_trod (tr_int Try.underlying3) h2 z2
  obtain ⟨n2, rfl⟩ := okWide_int Try.underlying3 (hval 2 3 v2 rfl rfl)
  obtain rfl : x2 = n2 := by symm; have e : (Value.cells (.int .i64 n2)).toList = [.int .i64 x2] := K2; simpa [Value.cells] using e
  have lt3 := trod_lt' h3
  have z3 : ∀ m ∈ d3.weights Try.prog 23, m ≤ reachBytes := fun m hm => by simpa using List.all_eq_true.1 hsz m (DataW.weights_mem_each (j := 3) (t := 23) rfl rfl m hm)
  obtain ⟨x3, K3, o3⟩ := arg_trod (tr_slice Try.underlying23 (by kernel_rfl) (by kernel_rfl) (tr_u8 Try.underlying5)) h3 z3
  obtain ⟨a3, len3, cap3, rfl⟩ := okWide_slice Try.underlying23 (hval 3 23 v3 rfl rfl)
  obtain ⟨y3, e3, R3⟩ := K3
  obtain rfl : .slice a3 len3 cap3 = y3 := by simpa [Value.cells] using e3
  have lt4 := trod_lt' h4
  have z4 : ∀ m ∈ d4.weights Try.prog 3, m ≤ reachBytes := fun m hm => by simpa using List.all_eq_true.1 hsz m (DataW.weights_mem_each (j := 4) (t := 3) rfl rfl m hm)
  obtain ⟨x4, K4, o4⟩ := arg_trod (tr_int Try.underlying3) h4 z4
  obtain ⟨n4, rfl⟩ := okWide_int Try.underlying3 (hval 4 3 v4 rfl rfl)
  obtain rfl : x4 = n4 := by symm; have e : (Value.cells (.int .i64 n4)).toList = [.int .i64 x4] := K4; simpa [Value.cells] using e
  have lt5 := trod_lt' h5
  have z5 : ∀ m ∈ d5.weights Try.prog 5, m ≤ reachBytes := fun m hm => by simpa using List.all_eq_true.1 hsz m (DataW.weights_mem_each (j := 5) (t := 5) rfl rfl m hm)
  obtain ⟨x5, K5, o5⟩ := arg_trod (tr_u8 Try.underlying5) h5 z5
  obtain ⟨n5, rfl⟩ := okWide_int Try.underlying5 (hval 5 5 v5 rfl rfl)
  obtain rfl : (x5.toNat : Int) = n5 := by symm; have e : (Value.cells (.int .u8 n5)).toList = [.int .u8 (x5.toNat : Int)] := K5; simpa [Value.cells] using e
  clear hA0 hval0 hsz0 hsz
  obtain ⟨K, r, HK⟩ := hocketlaw11_MesgTells.pure x0 x1 x2 x3 x4 x5 o0 o1 o2 o3 o4
  refine (hocketlaw11_MesgTells.calls K x0 _ _ _ _ _ _ x1 x2 x3 _ x4 x5 r W W (hp W) (hp W) (Mem.le.refl _) (sep_start W) R0_11 R0_14 R0_15 R0_21 R0_22 R0_23 R3 HK).mono fun e W' ⟨v, he, N, hv, hS⟩ => ?_
  have bel := below_of_sep hS
  subst he hv
  exact ⟨_, rfl, _, _, _, [], _, [], hW', trodAll_mk1 (shut_bool Try.underlying4 _), (trodAll_cons_mk (Below.trod laidOut (by kernel_rfl) (of_decide_eq_true (by kernel_rfl)) h0 bel lt0) (trodAll_cons_mk (Below.trod laidOut (by kernel_rfl) (of_decide_eq_true (by kernel_rfl)) h1 bel lt1) (trodAll_cons_mk (Below.trod laidOut (by kernel_rfl) (of_decide_eq_true (by kernel_rfl)) h2 bel lt2) (trodAll_cons_mk (Below.trod laidOut (by kernel_rfl) (of_decide_eq_true (by kernel_rfl)) h3 bel lt3) (trodAll_cons_mk (Below.trod laidOut (by kernel_rfl) (of_decide_eq_true (by kernel_rfl)) h4 bel lt4) (trodAll_cons_mk (Below.trod laidOut (by kernel_rfl) (of_decide_eq_true (by kernel_rfl)) h5 bel lt5) trodAll_mk0)))))), rfl, bel.frame _, fun h => by cases h⟩
theorem over : Rows.mesgTellsRow.holds Try.pinned (OpenSpec.ofChange Rows.mesgTellsSpec) :=
  OpenClaim.holds_of_wide 5 Try.f5 rfl rfl rfl rfl rfl rfl rfl ⟨rfl, rfl, rfl, rfl, rfl⟩ rfl rfl rfl rfl rfl (by kernel_rfl) Try.func5 (by kernel_rfl)
    (of_decide_eq_true (by kernel_rfl)) (by unfold Func.isWrapper; first | (rw [if_pos (by decide +kernel)]; kernel_rfl) | (rw [if_neg (by decide +kernel)]; exact ⟨rfl, rfl⟩))
    (fun os started H enc _ => lifted os started H enc)
theorem proved : Rows.MesgTellsSaid := over
#print axioms proved
end Go.Proofs.Ytdjkljabfdcbnaa.mesgTells
namespace Go.Proofs.Ytdjkljabfdcbnaa
/-- The row, under a short name, for the claim. -/
theorem mesgTells_holds : Rows.MesgTellsSaid := mesgTells.proved
end Go.Proofs.Ytdjkljabfdcbnaa
