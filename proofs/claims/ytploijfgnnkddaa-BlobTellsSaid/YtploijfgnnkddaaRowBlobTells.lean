/- The law BlobTells returns true at every input, and its arguments read as before; under no condition but the statement's own -/
import Derived.Test.YtploijfgnnkddaaRows
import Derived.WalkKit
import Derived.ProofKit
import Derived.OpenShut
import Derived.ShutString
import Derived.ChangeOld
import Derived.Below
import Derived.SizedLaws
import Derived.Carry
import Derived.Test.YtploijfgnnkddaaBlobTellsc4
import Derived.Test.YtploijfgnnkddaaLd
import Derived.Test.YtploijfgnnkddaaThInts
import Derived.Test.YtploijfgnnkddaaThPack
import Derived.Test.YtploijfgnnkddaaThMesg
import Derived.Test.YtploijfgnnkddaaThMesg2
import Derived.Test.YtploijfgnnkddaaThMesg3
import Derived.Test.YtploijfgnnkddaaThMesg4
import Derived.Test.YtploijfgnnkddaaThMesg5
import Derived.Test.YtploijfgnnkddaaThMesg6
import Derived.Test.YtploijfgnnkddaaThMsg
import Derived.Test.YtploijfgnnkddaaThMesg7
import Derived.Test.YtploijfgnnkddaaThMesg8
import Derived.Test.YtploijfgnnkddaaThMesgS
import Derived.Test.YtploijfgnnkddaaGpCrc
import Derived.Test.YtploijfgnnkddaaThCrc
import Derived.Test.YtploijfgnnkddaaThFram
import Derived.Test.YtploijfgnnkddaaThPack1
import Derived.Test.YtploijfgnnkddaaThMesg9
import Derived.Test.YtploijfgnnkddaaThMesg10
import Derived.Test.YtploijfgnnkddaaThRows
import Derived.Test.YtploijfgnnkddaaThMach
import Derived.Test.YtploijfgnnkddaaThMach2
import Derived.Test.YtploijfgnnkddaaThMach3
import Derived.Test.YtploijfgnnkddaaThMach4
import Derived.Test.YtploijfgnnkddaaThBlob
import Derived.Test.YtploijfgnnkddaaThBlob2
import Derived.Test.YtploijfgnnkddaaThStep
import Derived.Test.YtploijfgnnkddaaThState
import Derived.Test.YtploijfgnnkddaaPureBlob
namespace Go.Proofs.Ytploijfgnnkddaa.blobTells
open Go.ChangeShapes Go.WideShapes Go.ChangeAt Go.RowKit Go.Gp
set_option linter.unusedVariables false
theorem own : ownKnob Try.prog.godebug = none := by kernel_rfl
theorem laidOut : laidOutB Try.prog = true := by kernel_rfl
set_option maxHeartbeats 4000000 in
set_option maxRecDepth 100000 in
theorem lifted (os : Os) (started : os.Started) (H : Type) (enc : TypeId × Value → H) :
    ReturnsInHanded {} Try.checked os 5 .any (Rows.blobTellsSpec.pre6 enc Try.prog Try.f5 Rows.blobTellsRow.domain false) (Rows.blobTellsSpec.post enc Try.prog Try.f5 false true false false) := by
  refine returnsInHanded_of_change_sized (C := Try.checked) own started (by kernel_rfl) Try.func5
    (ChangeSpec.witness6 (enc := enc) (C := Try.checked) false ⟨#[], #[.slice none 0 0, .int .i64 0, .int .i64 0, .slice none 0 0, .int .i64 0, .int .u8 0], []⟩ 8 (by kernel_rfl) (by kernel_rfl) (by kernel_rfl) (by kernel_rfl)) ?_
  intro W base args ds gs before hval0 hW hcnd hsz0 _
  have hsz : (DataW.weightsEach Try.prog (Try.f5.params.toList ++ Rows.blobTellsSpec.plain.varTypes Try.prog) (ds ++ gs)).all (· ≤ reachBytes) = true := hsz0
  have hval : ∀ (j : Nat) t v, Try.f5.params[j]? = some t → args[j]? = some v → Value.okWide Try.prog W .any base t v := hval0
  have hW' := hW
  obtain ⟨p, q, hA0, hV, rfl, hfz, hnd⟩ := hW
  have hA : DataW.TrodAll enc Try.prog W 0 (fun _ => true) true Try.f5.params.toList args.toList ds p := hA0
  rw [Try.params5] at hA hval hsz
  obtain ⟨v0, vs0, d0, ds0, p0, q0, hargs, rfl, rfl, h0, r0⟩ := trodAll_cons hA
  obtain ⟨v1, vs1, d1, ds1, p1, q1, rfl, rfl, rfl, h1, r1⟩ := trodAll_cons r0
  obtain ⟨v2, vs2, d2, ds2, p2, q2, rfl, rfl, rfl, h2, r2⟩ := trodAll_cons r1
  obtain ⟨v3, vs3, d3, ds3, p3, q3, rfl, rfl, rfl, h3, r3⟩ := trodAll_cons r2
  obtain ⟨v4, vs4, d4, ds4, p4, q4, rfl, rfl, rfl, h4, r4⟩ := trodAll_cons r3
  obtain ⟨v5, vs5, d5, ds5, p5, q5, rfl, rfl, rfl, h5, r5⟩ := trodAll_cons r4
  obtain ⟨rfl, rfl, rfl⟩ := trodAll_nil r5
  obtain rfl : args = #[v0, v1, v2, v3, v4, v5] := by cases args; simp_all
  obtain ⟨rfl, rfl⟩ := trodVars_none hV
  have lt0 := trod_lt' h0
  have z0 : ∀ m ∈ d0.weights Try.prog 29, m ≤ reachBytes := fun m hm => by simpa using List.all_eq_true.1 hsz m (DataW.weights_mem_each (j := 0) (t := 29) rfl rfl m hm)
  obtain ⟨x0, K0, o0⟩ := arg_trod (tr_slice Try.underlying29 (by kernel_rfl) (by kernel_rfl) (tr_int Try.underlying3)) h0 z0
  obtain ⟨a0, len0, cap0, rfl⟩ := okWide_slice Try.underlying29 (hval 0 29 v0 rfl rfl)
  obtain ⟨y0, e0, R0⟩ := K0
  obtain rfl : .slice a0 len0 cap0 = y0 := by simpa [Value.cells] using e0
  have lt1 := trod_lt' h1
  have z1 : ∀ m ∈ d1.weights Try.prog 3, m ≤ reachBytes := fun m hm => by simpa using List.all_eq_true.1 hsz m (DataW.weights_mem_each (j := 1) (t := 3) rfl rfl m hm)
  obtain ⟨x1, K1, o1⟩ := arg_trod (tr_int Try.underlying3) h1 z1
  obtain ⟨n1, rfl⟩ := okWide_int Try.underlying3 (hval 1 3 v1 rfl rfl)
  obtain rfl : x1 = n1 := by symm; have e : (Value.cells (.int .i64 n1)).toList = [.int .i64 x1] := K1; simpa [Value.cells] using e
  have lt2 := trod_lt' h2
  have z2 : ∀ m ∈ d2.weights Try.prog 3, m ≤ reachBytes := fun m hm => by simpa using List.all_eq_true.1 hsz m (DataW.weights_mem_each (j := 2) (t := 3) rfl rfl m hm)
  obtain ⟨x2, K2, o2⟩ := arg_trod (tr_int Try.underlying3) h2 z2
  obtain ⟨n2, rfl⟩ := okWide_int Try.underlying3 (hval 2 3 v2 rfl rfl)
  obtain rfl : x2 = n2 := by symm; have e : (Value.cells (.int .i64 n2)).toList = [.int .i64 x2] := K2; simpa [Value.cells] using e
  have lt3 := trod_lt' h3
  have z3 : ∀ m ∈ d3.weights Try.prog 22, m ≤ reachBytes := fun m hm => by simpa using List.all_eq_true.1 hsz m (DataW.weights_mem_each (j := 3) (t := 22) rfl rfl m hm)
  obtain ⟨x3, K3, o3⟩ := arg_trod (tr_slice Try.underlying22 (by kernel_rfl) (by kernel_rfl) (tr_u8 Try.underlying5)) h3 z3
  obtain ⟨a3, len3, cap3, rfl⟩ := okWide_slice Try.underlying22 (hval 3 22 v3 rfl rfl)
  obtain ⟨y3, e3, R3⟩ := K3
  obtain rfl : .slice a3 len3 cap3 = y3 := by simpa [Value.cells] using e3
  have lt4 := trod_lt' h4
  have z4 : ∀ m ∈ d4.weights Try.prog 3, m ≤ reachBytes := fun m hm => by simpa using List.all_eq_true.1 hsz m (DataW.weights_mem_each (j := 4) (t := 3) rfl rfl m hm)
  obtain ⟨x4, K4, o4⟩ := arg_trod (tr_int Try.underlying3) h4 z4
  obtain ⟨n4, rfl⟩ := okWide_int Try.underlying3 (hval 4 3 v4 rfl rfl)
  obtain rfl : x4 = n4 := by symm; have e : (Value.cells (.int .i64 n4)).toList = [.int .i64 x4] := K4; simpa [Value.cells] using e
  have lt5 := trod_lt' h5
  have z5 : ∀ m ∈ d5.weights Try.prog 5, m ≤ reachBytes := fun m hm => by simpa using List.all_eq_true.1 hsz m (DataW.weights_mem_each (j := 5) (t := 5) rfl rfl m hm)
  obtain ⟨x5, K5, o5⟩ := arg_trod (tr_u8 Try.underlying5) h5 z5
  obtain ⟨n5, rfl⟩ := okWide_int Try.underlying5 (hval 5 5 v5 rfl rfl)
  obtain rfl : (x5.toNat : Int) = n5 := by symm; have e : (Value.cells (.int .u8 n5)).toList = [.int .u8 (x5.toNat : Int)] := K5; simpa [Value.cells] using e
  clear hA0 hval0 hsz0 hsz
  obtain ⟨K, r, HK⟩ := hocketlaw15_BlobTells.pure x0 x1 x2 x3 x4 x5 o0 o1 o2 o3 o4
  refine (hocketlaw15_BlobTells.calls K x0 _ x1 x2 x3 _ x4 x5 r W W (hp W) (hp W) (Mem.le.refl _) (sep_start W) R0 R3 HK).mono fun e W' ⟨v, he, N, hv, hS⟩ => ?_
  have bel := below_of_sep hS
  subst he hv
  exact ⟨_, rfl, _, _, _, [], _, [], hW', trodAll_mk1 (shut_bool Try.underlying4 _), (trodAll_cons_mk (Below.trod laidOut (by kernel_rfl) (of_decide_eq_true (by kernel_rfl)) h0 bel lt0) (trodAll_cons_mk (Below.trod laidOut (by kernel_rfl) (of_decide_eq_true (by kernel_rfl)) h1 bel lt1) (trodAll_cons_mk (Below.trod laidOut (by kernel_rfl) (of_decide_eq_true (by kernel_rfl)) h2 bel lt2) (trodAll_cons_mk (Below.trod laidOut (by kernel_rfl) (of_decide_eq_true (by kernel_rfl)) h3 bel lt3) (trodAll_cons_mk (Below.trod laidOut (by kernel_rfl) (of_decide_eq_true (by kernel_rfl)) h4 bel lt4) (trodAll_cons_mk (Below.trod laidOut (by kernel_rfl) (of_decide_eq_true (by kernel_rfl)) h5 bel lt5) trodAll_mk0)))))), rfl, bel.frame _, fun h => by cases h⟩
theorem over : Rows.blobTellsRow.holds Try.pinned (OpenSpec.ofChange Rows.blobTellsSpec) :=
  OpenClaim.holds_of_wide 5 Try.f5 rfl rfl rfl rfl rfl rfl rfl ⟨rfl, rfl, rfl, rfl, rfl⟩ rfl rfl rfl rfl rfl (by kernel_rfl) Try.func5 (by kernel_rfl)
    (of_decide_eq_true (by kernel_rfl)) (by unfold Func.isWrapper; first | (rw [if_pos (by decide +kernel)]; kernel_rfl) | (rw [if_neg (by decide +kernel)]; exact ⟨rfl, rfl⟩))
    (fun os started H enc _ => lifted os started H enc)
theorem proved : Rows.BlobTellsSaid := over
#print axioms proved
end Go.Proofs.Ytploijfgnnkddaa.blobTells
namespace Go.Proofs.Ytploijfgnnkddaa
/-- The row, under a short name, for the claim. -/
theorem blobTells_holds : Rows.BlobTellsSaid := blobTells.proved
end Go.Proofs.Ytploijfgnnkddaa
