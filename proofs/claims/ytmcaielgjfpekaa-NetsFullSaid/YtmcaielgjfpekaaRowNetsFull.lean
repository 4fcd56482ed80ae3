/- The law NetsFull returns true at every input, and its arguments read as before; under no condition but the statement's own -/
import Derived.Test.YtmcaielgjfpekaaRows
import Derived.WalkKit
import Derived.ProofKit
import Derived.OpenShut
import Derived.ShutString
import Derived.ChangeOld
import Derived.Below
import Derived.SizedLaws
import Derived.Carry
import Derived.Test.YtmcaielgjfpekaaNetsFullc2
import Derived.Test.YtmcaielgjfpekaaLd
import Derived.Test.YtmcaielgjfpekaaThInts
import Derived.Test.YtmcaielgjfpekaaThPack
import Derived.Test.YtmcaielgjfpekaaThMesg
import Derived.Test.YtmcaielgjfpekaaThMesg2
import Derived.Test.YtmcaielgjfpekaaThMesg3
import Derived.Test.YtmcaielgjfpekaaThMesg4
import Derived.Test.YtmcaielgjfpekaaThMesg5
import Derived.Test.YtmcaielgjfpekaaThMesg6
import Derived.Test.YtmcaielgjfpekaaThMsg
import Derived.Test.YtmcaielgjfpekaaThMesg7
import Derived.Test.YtmcaielgjfpekaaThMesg8
import Derived.Test.YtmcaielgjfpekaaThMesgS
import Derived.Test.YtmcaielgjfpekaaGpCrc
import Derived.Test.YtmcaielgjfpekaaThCrc
import Derived.Test.YtmcaielgjfpekaaThFram
import Derived.Test.YtmcaielgjfpekaaThNets
import Derived.Test.YtmcaielgjfpekaaPureNets2
namespace Go.Proofs.Ytmcaielgjfpekaa.netsFull
open Go.ChangeShapes Go.WideShapes Go.ChangeAt Go.RowKit Go.Gp
set_option linter.unusedVariables false
theorem own : ownKnob Try.prog.godebug = none := by kernel_rfl
theorem laidOut : laidOutB Try.prog = true := by kernel_rfl
set_option maxHeartbeats 4000000 in
set_option maxRecDepth 100000 in
theorem lifted (os : Os) (started : os.Started) (H : Type) (enc : TypeId × Value → H) :
    ReturnsInHanded {} Try.checked os 8 .any (Rows.netsFullSpec.pre6 enc Try.prog Try.f8 Rows.netsFullRow.domain false) (Rows.netsFullSpec.post enc Try.prog Try.f8 false true false false) := by
  refine returnsInHanded_of_change_sized (C := Try.checked) own started (by kernel_rfl) Try.func8
    (ChangeSpec.witness6 (enc := enc) (C := Try.checked) false ⟨#[], #[.int .i64 0, .int .i64 0], []⟩ 8 (by kernel_rfl) (by kernel_rfl) (by kernel_rfl) (by kernel_rfl)) ?_
  intro W base args ds gs before hval0 hW hcnd hsz0 _
  have hsz : (DataW.weightsEach Try.prog (Try.f8.params.toList ++ Rows.netsFullSpec.plain.varTypes Try.prog) (ds ++ gs)).all (· ≤ reachBytes) = true := hsz0
  have hval : ∀ (j : Nat) t v, Try.f8.params[j]? = some t → args[j]? = some v → Value.okWide Try.prog W .any base t v := hval0
  have hW' := hW
  obtain ⟨p, q, hA0, hV, rfl, hfz, hnd⟩ := hW
  have hA : DataW.TrodAll enc Try.prog W 0 (fun _ => true) true Try.f8.params.toList args.toList ds p := hA0
  rw [Try.params8] at hA hval hsz
  obtain ⟨v0, vs0, d0, ds0, p0, q0, hargs, rfl, rfl, h0, r0⟩ := trodAll_cons hA
  obtain ⟨v1, vs1, d1, ds1, p1, q1, rfl, rfl, rfl, h1, r1⟩ := trodAll_cons r0
  obtain ⟨rfl, rfl, rfl⟩ := trodAll_nil r1
  obtain rfl : args = #[v0, v1] := by cases args; simp_all
  obtain ⟨rfl, rfl⟩ := trodVars_none hV
  have lt0 := trod_lt' h0
  have z0 : ∀ m ∈ d0.weights Try.prog 3, m ≤ reachBytes := fun m hm => by simpa using List.all_eq_true.1 hsz m (DataW.weights_mem_each (j := 0) (t := 3) rfl rfl m hm)
  obtain ⟨x0, K0, o0⟩ := arg_trod (tr_int Try.underlying3) h0 z0
  obtain ⟨n0, rfl⟩ := okWide_int Try.underlying3 (hval 0 3 v0 rfl rfl)
  obtain rfl : x0 = n0 := by symm; have e : (Value.cells (.int .i64 n0)).toList = [.int .i64 x0] := K0; simpa [Value.cells] using e
  have lt1 := trod_lt' h1
  have z1 : ∀ m ∈ d1.weights Try.prog 3, m ≤ reachBytes := fun m hm => by simpa using List.all_eq_true.1 hsz m (DataW.weights_mem_each (j := 1) (t := 3) rfl rfl m hm)
  obtain ⟨x1, K1, o1⟩ := arg_trod (tr_int Try.underlying3) h1 z1
  obtain ⟨n1, rfl⟩ := okWide_int Try.underlying3 (hval 1 3 v1 rfl rfl)
  obtain rfl : x1 = n1 := by symm; have e : (Value.cells (.int .i64 n1)).toList = [.int .i64 x1] := K1; simpa [Value.cells] using e
  clear hA0 hval0 hsz0 hsz
  obtain ⟨K, r, HK⟩ := hocketlaw23_NetsFull.pure x0 x1 o0 o1
  refine (hocketlaw23_NetsFull.calls K x0 x1 r W W (hp W) (hp W) (Mem.le.refl _) (sep_start W)  HK).mono fun e W' ⟨v, he, N, hv, hS⟩ => ?_
  have bel := below_of_sep hS
  subst he hv
  exact ⟨_, rfl, _, _, _, [], _, [], hW', trodAll_mk1 (shut_bool Try.underlying4 _), (trodAll_cons_mk (Below.trod laidOut (by kernel_rfl) (of_decide_eq_true (by kernel_rfl)) h0 bel lt0) (trodAll_cons_mk (Below.trod laidOut (by kernel_rfl) (of_decide_eq_true (by kernel_rfl)) h1 bel lt1) trodAll_mk0)), rfl, bel.frame _, fun h => by cases h⟩
theorem over : Rows.netsFullRow.holds Try.pinned (OpenSpec.ofChange Rows.netsFullSpec) :=
  OpenClaim.holds_of_wide 8 Try.f8 rfl rfl rfl rfl rfl rfl rfl ⟨rfl, rfl, rfl, rfl, rfl⟩ rfl rfl rfl rfl rfl (by kernel_rfl) Try.func8 (by kernel_rfl)
    (of_decide_eq_true (by kernel_rfl)) (by unfold Func.isWrapper; first | (rw [if_pos (by decide +kernel)]; kernel_rfl) | (rw [if_neg (by decide +kernel)]; exact ⟨rfl, rfl⟩))
    (fun os started H enc _ => lifted os started H enc)
theorem proved : Rows.NetsFullSaid := over
#print axioms proved
end Go.Proofs.Ytmcaielgjfpekaa.netsFull
namespace Go.Proofs.Ytmcaielgjfpekaa
/-- The row, under a short name, for the claim. -/
theorem netsFull_holds : Rows.NetsFullSaid := netsFull.proved
end Go.Proofs.Ytmcaielgjfpekaa
