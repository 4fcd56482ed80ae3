/- The law NetsPlays returns true at every input, and its arguments read as before; under no condition but the statement's own -/
import Derived.Test.YtmcaielgjfpekaaRows
import Derived.WalkKit
import Derived.ProofKit
import Derived.OpenShut
import Derived.ShutString
import Derived.ChangeOld
import Derived.Below
import Derived.SizedLaws
import Derived.Carry
import Derived.Test.YtmcaielgjfpekaaNetsPlaysc4
import Derived.Test.YtmcaielgjfpekaaLd
import Derived.Test.YtmcaielgjfpekaakThInts
import Derived.Test.YtmcaielgjfpekaakThPack
import Derived.Test.YtmcaielgjfpekaakThMesg
import Derived.Test.YtmcaielgjfpekaakThMesg2
import Derived.Test.YtmcaielgjfpekaakThMesg3
import Derived.Test.YtmcaielgjfpekaakThMesg4
import Derived.Test.YtmcaielgjfpekaakThMesg5
import Derived.Test.YtmcaielgjfpekaakThMesg6
import Derived.Test.YtmcaielgjfpekaakThMsg
import Derived.Test.YtmcaielgjfpekaakThMesg7
import Derived.Test.YtmcaielgjfpekaakThMesg8
import Derived.Test.YtmcaielgjfpekaakThMesgS
import Derived.Test.YtmcaielgjfpekaaGpCrc
import Derived.Test.YtmcaielgjfpekaakThCrc
import Derived.Test.YtmcaielgjfpekaakThFram
import Derived.Test.YtmcaielgjfpekaakThPack1
import Derived.Test.YtmcaielgjfpekaakThMesg9
import Derived.Test.YtmcaielgjfpekaakThMesg10
import Derived.Test.YtmcaielgjfpekaakThFram2
import Derived.Test.YtmcaielgjfpekaakThNets
import Derived.Test.YtmcaielgjfpekaakPureNets3
namespace Go.Proofs.Ytmcaielgjfpekaa.netsPlays
open Go.ChangeShapes Go.WideShapes Go.ChangeAt Go.RowKit Go.Gp
set_option linter.unusedVariables false
theorem own : ownKnob Try.prog.godebug = none := by kernel_rfl
theorem laidOut : laidOutB Try.prog = true := by kernel_rfl
theorem bulkAll_mem {H : Type} {d : DataW H} {l : List (DataW H)} (h : d ∈ l) : Rows.uptoBulk d ≤ Rows.uptoBulkAll l := by
  induction l with
  | nil => cases h
  | cons x r ih =>
    simp only [Rows.uptoBulkAll]
    rcases List.mem_cons.1 h with rfl | e
    · omega
    · have := ih e; omega
theorem bulk_pos {H : Type} (d : DataW H) : 1 ≤ Rows.uptoBulk d := by
  cases d with
  | lit l => cases l <;> simp [Rows.uptoBulk]
  | _ => simp [Rows.uptoBulk]
theorem bulkAll_len {H : Type} (l : List (DataW H)) : l.length ≤ Rows.uptoBulkAll l := by
  induction l with
  | nil => simp [Rows.uptoBulkAll]
  | cons x r ih => have := bulk_pos x; simp only [Rows.uptoBulkAll, List.length_cons]; omega
theorem bulk : Bulk (fun {H : Type} (d : DataW H) => Rows.uptoBulk d) where
  sl := fun es rs => ⟨by have := bulkAll_len es; simp only [Rows.uptoBulk]; omega, fun e he => by have := bulkAll_mem he; simp only [Rows.uptoBulk]; omega⟩
  ag := fun ps e he => by have := bulkAll_mem he; simp only [Rows.uptoBulk]; omega
set_option maxHeartbeats 4000000 in
set_option maxRecDepth 100000 in
theorem lifted (os : Os) (started : os.Started) (H : Type) (enc : TypeId × Value → H) (F : Stop.Interp) :
    ReturnsInHanded {} Try.checked os 7 .any ((Rows.OpenSpec.upto Rows.netsPlaysSpec).pre6 enc Try.prog Try.f7 Rows.netsPlaysUptoRow.domain false) (((Rows.OpenSpec.upto Rows.netsPlaysSpec).at F).post enc Try.prog Try.f7 false true false false) := by
  refine returnsInHanded_of_cond_sized (C := Try.checked) (s := (Rows.OpenSpec.upto Rows.netsPlaysSpec)) (k := Rows.uptoSmall) rfl own started (by kernel_rfl) Try.func7
    (OpenSpec.witness (enc := enc) (C := Try.checked) (s := (Rows.OpenSpec.upto Rows.netsPlaysSpec)) (k := Rows.uptoSmall) rfl false ⟨#[], #[.int .i64 0, .slice none 0 0, .slice none 0 0], []⟩ 8 (by kernel_rfl) (by kernel_rfl) (by kernel_rfl) (x := ([.lit (.int .i64 0), .nil, .nil], [], [])) (by kernel_rfl) rfl (by kernel_rfl)) ?_
  intro W base args ds gs before hval0 hW hcnd hkk hsz0 _
  have hB : Rows.uptoBulkAll (ds ++ gs) ≤ 1048576 := of_decide_eq_true hkk
  clear hkk
  have hsz : (DataW.weightsEach Try.prog (Try.f7.params.toList ++ Rows.netsPlaysSpec.plain.varTypes Try.prog) (ds ++ gs)).all (· ≤ reachBytes) = true := hsz0
  have hval : ∀ (j : Nat) t v, Try.f7.params[j]? = some t → args[j]? = some v → Value.okWide Try.prog W .any base t v := hval0
  have hW' := hW
  obtain ⟨p, q, hA0, hV, rfl, hfz, hnd⟩ := hW
  have hA : DataW.TrodAll enc Try.prog W 0 (fun _ => true) true Try.f7.params.toList args.toList ds p := hA0
  rw [Try.params7] at hA hval hsz
  obtain ⟨v0, vs0, d0, ds0, p0, q0, hargs, rfl, rfl, h0, r0⟩ := trodAll_cons hA
  obtain ⟨v1, vs1, d1, ds1, p1, q1, rfl, rfl, rfl, h1, r1⟩ := trodAll_cons r0
  obtain ⟨v2, vs2, d2, ds2, p2, q2, rfl, rfl, rfl, h2, r2⟩ := trodAll_cons r1
  obtain ⟨rfl, rfl, rfl⟩ := trodAll_nil r2
  obtain rfl : args = #[v0, v1, v2] := by cases args; simp_all
  obtain ⟨rfl, rfl⟩ := trodVars_none hV
  simp only [List.append_nil, Rows.uptoBulkAll] at hB
  have lt0 := trod_lt' h0
  have z0 : ∀ m ∈ d0.weights Try.prog 3, m ≤ reachBytes := fun m hm => by simpa using List.all_eq_true.1 hsz m (DataW.weights_mem_each (j := 0) (t := 3) rfl rfl m hm)
  obtain ⟨x0, K0, o0⟩ := arg_trodb (b := fun {H : Type} (d : DataW H) => Rows.uptoBulk d) (B := 1048576) (TR.bulk (tr_int Try.underlying3)) h0 z0 (by omega)
  obtain ⟨n0, rfl⟩ := okWide_int Try.underlying3 (hval 0 3 v0 rfl rfl)
  obtain rfl : x0 = n0 := by symm; have e : (Value.cells (.int .i64 n0)).toList = [.int .i64 x0] := K0; simpa [Value.cells] using e
  have lt1 := trod_lt' h1
  have z1 : ∀ m ∈ d1.weights Try.prog 22, m ≤ reachBytes := fun m hm => by simpa using List.all_eq_true.1 hsz m (DataW.weights_mem_each (j := 1) (t := 22) rfl rfl m hm)
  obtain ⟨x1, K1, o1⟩ := arg_trodb (b := fun {H : Type} (d : DataW H) => Rows.uptoBulk d) (B := 1048576) (trb_slice bulk Try.underlying22 (by kernel_rfl) (TR.bulk (tr_int Try.underlying3))) h1 z1 (by omega)
  obtain ⟨a1, len1, cap1, rfl⟩ := okWide_slice Try.underlying22 (hval 1 22 v1 rfl rfl)
  obtain ⟨y1, e1, R1⟩ := K1
  obtain rfl : .slice a1 len1 cap1 = y1 := by simpa [Value.cells] using e1
  have lt2 := trod_lt' h2
  have z2 : ∀ m ∈ d2.weights Try.prog 49, m ≤ reachBytes := fun m hm => by simpa using List.all_eq_true.1 hsz m (DataW.weights_mem_each (j := 2) (t := 49) rfl rfl m hm)
  obtain ⟨x2, K2, o2⟩ := arg_trodb (b := fun {H : Type} (d : DataW H) => Rows.uptoBulk d) (B := 1048576) (trb_slice bulk Try.underlying49 (by kernel_rfl) (show TRb (fun {H : Type} (d : DataW H) => Rows.uptoBulk d) 1048576 Try.prog 32 k_api_Msg okU_api_Msg from trb_struct bulk (fun x : api_Msg => (x.Kind, (x.From, (x.To, (x.View, (x.Inst, (x.Len, (x.Has, (x.Members, (x.Source, (x.At, (x.Total, (x.Data, (x.Hop, (x.Seq, (x.Have, (x.Need, (x.Index, x.Entry)))))))))))))))))) (fun u => (⟨u.1, u.2.1, u.2.2.1, u.2.2.2.1, u.2.2.2.2.1, u.2.2.2.2.2.1, u.2.2.2.2.2.2.1, u.2.2.2.2.2.2.2.1, u.2.2.2.2.2.2.2.2.1, u.2.2.2.2.2.2.2.2.2.1, u.2.2.2.2.2.2.2.2.2.2.1, u.2.2.2.2.2.2.2.2.2.2.2.1, u.2.2.2.2.2.2.2.2.2.2.2.2.1, u.2.2.2.2.2.2.2.2.2.2.2.2.2.1, u.2.2.2.2.2.2.2.2.2.2.2.2.2.2.1, u.2.2.2.2.2.2.2.2.2.2.2.2.2.2.2.1, u.2.2.2.2.2.2.2.2.2.2.2.2.2.2.2.2.1, u.2.2.2.2.2.2.2.2.2.2.2.2.2.2.2.2.2⟩ : api_Msg)) (fun _ => rfl) Try.underlying32 (by kernel_rfl) (trsb_cons rfl (by kernel_rfl) (TR.bulk (tr_int Try.underlying3)) (trsb_cons rfl (by kernel_rfl) (TR.bulk (tr_int Try.underlying3)) (trsb_cons rfl (by kernel_rfl) (TR.bulk (tr_int Try.underlying3)) (trsb_cons rfl (by kernel_rfl) (TR.bulk (tr_int Try.underlying3)) (trsb_cons rfl (by kernel_rfl) (TR.bulk (tr_int Try.underlying3)) (trsb_cons rfl (by kernel_rfl) (TR.bulk (tr_int Try.underlying3)) (trsb_cons rfl (by kernel_rfl) (TR.bulk (tr_bool Try.underlying4)) (trsb_cons rfl (by kernel_rfl) (TR.bulk (tr_int Try.underlying3)) (trsb_cons rfl (by kernel_rfl) (TR.bulk (tr_int Try.underlying3)) (trsb_cons rfl (by kernel_rfl) (TR.bulk (tr_int Try.underlying3)) (trsb_cons rfl (by kernel_rfl) (TR.bulk (tr_int Try.underlying3)) (trsb_cons rfl (by kernel_rfl) (trb_slice bulk Try.underlying26 (by kernel_rfl) (TR.bulk (tr_u8 Try.underlying5))) (trsb_cons rfl (by kernel_rfl) (TR.bulk (tr_int Try.underlying3)) (trsb_cons rfl (by kernel_rfl) (TR.bulk (tr_int Try.underlying3)) (trsb_cons rfl (by kernel_rfl) (trb_slice bulk Try.underlying22 (by kernel_rfl) (TR.bulk (tr_int Try.underlying3))) (trsb_cons rfl (by kernel_rfl) (trb_slice bulk Try.underlying22 (by kernel_rfl) (TR.bulk (tr_int Try.underlying3))) (trsb_cons rfl (by kernel_rfl) (TR.bulk (tr_int Try.underlying3)) (trsb_one rfl (by kernel_rfl) (show TRb (fun {H : Type} (d : DataW H) => Rows.uptoBulk d) 1048576 Try.prog 30 k_api_Entry okU_api_Entry from trb_struct bulk (fun x : api_Entry => (x.Sess, (x.Seq, x.Cmd))) (fun u => (⟨u.1, u.2.1, u.2.2⟩ : api_Entry)) (fun _ => rfl) Try.underlying30 (by kernel_rfl) (trsb_cons rfl (by kernel_rfl) (TR.bulk (tr_int Try.underlying3)) (trsb_cons rfl (by kernel_rfl) (TR.bulk (tr_int Try.underlying3)) (trsb_one rfl (by kernel_rfl) (show TRb (fun {H : Type} (d : DataW H) => Rows.uptoBulk d) 1048576 Try.prog 28 k_api_Cmd okU_api_Cmd from trb_struct bulk (fun x : api_Cmd => (x.Kind, (x.Who, (x.Key, (x.Val, x.Old))))) (fun u => (⟨u.1, u.2.1, u.2.2.1, u.2.2.2.1, u.2.2.2.2⟩ : api_Cmd)) (fun _ => rfl) Try.underlying28 (by kernel_rfl) (trsb_cons rfl (by kernel_rfl) (TR.bulk (tr_int Try.underlying3)) (trsb_cons rfl (by kernel_rfl) (TR.bulk (tr_int Try.underlying3)) (trsb_cons rfl (by kernel_rfl) (trb_slice bulk Try.underlying26 (by kernel_rfl) (TR.bulk (tr_u8 Try.underlying5))) (trsb_cons rfl (by kernel_rfl) (trb_slice bulk Try.underlying26 (by kernel_rfl) (TR.bulk (tr_u8 Try.underlying5))) (trsb_one rfl (by kernel_rfl) (trb_slice bulk Try.underlying26 (by kernel_rfl) (TR.bulk (tr_u8 Try.underlying5))))))))))))))))))))))))))))))))) h2 z2 (by omega)
  obtain ⟨a2, len2, cap2, rfl⟩ := okWide_slice Try.underlying49 (hval 2 49 v2 rfl rfl)
  obtain ⟨y2, e2, R2⟩ := K2
  obtain rfl : .slice a2 len2 cap2 = y2 := by simpa [Value.cells] using e2
  clear hA0 hval0 hsz0 hsz
  obtain ⟨K, r, HK⟩ := hocketlaw23_NetsPlays.pure x0 x1 x2 o0 o1 o2
  refine (hocketlaw23_NetsPlays.calls K x0 x1 _ x2 _ r W W (hp W) (hp W) (Mem.le.refl _) (sep_start W) R1 R2 HK).mono fun e W' ⟨v, he, N, hv, hS⟩ => ?_
  have bel := below_of_sep hS
  subst he hv
  exact ⟨_, rfl, _, _, _, [], _, [], hW', trodAll_mk1 (shut_bool Try.underlying4 _), (trodAll_cons_mk (Below.trod laidOut (by kernel_rfl) (of_decide_eq_true (by kernel_rfl)) h0 bel lt0) (trodAll_cons_mk (Below.trod laidOut (by kernel_rfl) (of_decide_eq_true (by kernel_rfl)) h1 bel lt1) (trodAll_cons_mk (Below.trod laidOut (by kernel_rfl) (of_decide_eq_true (by kernel_rfl)) h2 bel lt2) trodAll_mk0))), rfl, bel.frame _, fun h => by cases h⟩
theorem over : Rows.netsPlaysUptoRow.holds Try.pinned (Rows.OpenSpec.upto Rows.netsPlaysSpec) :=
  OpenClaim.holds_of_cond 7 Try.f7 rfl rfl rfl rfl rfl rfl rfl ⟨rfl, rfl, rfl, rfl, rfl⟩ rfl rfl rfl rfl rfl (by kernel_rfl) Try.func7 (by kernel_rfl)
    (of_decide_eq_true (by kernel_rfl)) (by unfold Func.isWrapper; first | (rw [if_pos (by decide +kernel)]; kernel_rfl) | (rw [if_neg (by decide +kernel)]; exact ⟨rfl, rfl⟩))
    (fun os started H enc _ F => lifted os started H enc F)
theorem proved : Rows.NetsPlaysUptoSaid := over
#print axioms proved
end Go.Proofs.Ytmcaielgjfpekaa.netsPlays
namespace Go.Proofs.Ytmcaielgjfpekaa
/-- The row, under a short name, for the claim. -/
theorem netsPlays_holds : Rows.NetsPlaysUptoSaid := netsPlays.proved
end Go.Proofs.Ytmcaielgjfpekaa
