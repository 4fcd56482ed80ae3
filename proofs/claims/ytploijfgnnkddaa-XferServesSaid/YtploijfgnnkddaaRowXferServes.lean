/- The law XferServes returns true at every input, and its arguments read as before; under no condition but the statement's own -/
import Derived.Test.YtploijfgnnkddaaRows
import Derived.WalkKit
import Derived.ProofKit
import Derived.OpenShut
import Derived.ShutString
import Derived.ChangeOld
import Derived.Below
import Derived.SizedLaws
import Derived.Carry
import Derived.Test.YtploijfgnnkddaaXferServesc3
import Derived.Test.YtploijfgnnkddaaLd
import Derived.Test.YtploijfgnnkddaaThInts
import Derived.Test.YtploijfgnnkddaaThPack
import Derived.Test.YtploijfgnnkddaaThMesg
import Derived.Test.YtploijfgnnkddaaThMesg2
import Derived.Test.YtploijfgnnkddaaThMesg3
import Derived.Test.YtploijfgnnkddaaThMesg4
import Derived.Test.YtploijfgnnkddaaThMesg5
import Derived.Test.YtploijfgnnkddaaThMesg6
import Derived.Test.YtploijfgnnkddaaThMsg
import Derived.Test.YtploijfgnnkddaaThMesg7
import Derived.Test.YtploijfgnnkddaaThMesg8
import Derived.Test.YtploijfgnnkddaaThMesgS
import Derived.Test.YtploijfgnnkddaaGpCrc
import Derived.Test.YtploijfgnnkddaaThCrc
import Derived.Test.YtploijfgnnkddaaThFram
import Derived.Test.YtploijfgnnkddaaThPack1
import Derived.Test.YtploijfgnnkddaaThMesg9
import Derived.Test.YtploijfgnnkddaaThMesg10
import Derived.Test.YtploijfgnnkddaaThRows
import Derived.Test.YtploijfgnnkddaaThMach
import Derived.Test.YtploijfgnnkddaaThMach2
import Derived.Test.YtploijfgnnkddaaThMach3
import Derived.Test.YtploijfgnnkddaaThMach4
import Derived.Test.YtploijfgnnkddaaThBlob
import Derived.Test.YtploijfgnnkddaaThBlob2
import Derived.Test.YtploijfgnnkddaaThStep
import Derived.Test.YtploijfgnnkddaaThState
import Derived.Test.YtploijfgnnkddaaThXfer
import Derived.Test.YtploijfgnnkddaaPureServes
namespace Go.Proofs.Ytploijfgnnkddaa.xferServes
open Go.ChangeShapes Go.WideShapes Go.ChangeAt Go.RowKit Go.Gp
set_option linter.unusedVariables false
theorem own : ownKnob Try.prog.godebug = none := by kernel_rfl
theorem laidOut : laidOutB Try.prog = true := by kernel_rfl
set_option maxHeartbeats 4000000 in
set_option maxRecDepth 100000 in
theorem lifted (os : Os) (started : os.Started) (H : Type) (enc : TypeId × Value → H) :
    ReturnsInHanded {} Try.checked os 7 .any (Rows.xferServesSpec.pre6 enc Try.prog Try.f7 Rows.xferServesRow.domain false) (Rows.xferServesSpec.post enc Try.prog Try.f7 false true false false) := by
  refine returnsInHanded_of_change_sized (C := Try.checked) own started (by kernel_rfl) Try.func7
    (ChangeSpec.witness6 (enc := enc) (C := Try.checked) false ⟨#[], #[.slice none 0 0, .int .i64 0, .int .i64 0, .int .i64 0, .int .i64 0], []⟩ 8 (by kernel_rfl) (by kernel_rfl) (by kernel_rfl) (by kernel_rfl)) ?_
  intro W base args ds gs before hval0 hW hcnd hsz0 _
  have hsz : (DataW.weightsEach Try.prog (Try.f7.params.toList ++ Rows.xferServesSpec.plain.varTypes Try.prog) (ds ++ gs)).all (· ≤ reachBytes) = true := hsz0
  have hval : ∀ (j : Nat) t v, Try.f7.params[j]? = some t → args[j]? = some v → Value.okWide Try.prog W .any base t v := hval0
  have hW' := hW
  obtain ⟨p, q, hA0, hV, rfl, hfz, hnd⟩ := hW
  have hA : DataW.TrodAll enc Try.prog W 0 (fun _ => true) true Try.f7.params.toList args.toList ds p := hA0
  rw [Try.params7] at hA hval hsz
  obtain ⟨v0, vs0, d0, ds0, p0, q0, hargs, rfl, rfl, h0, r0⟩ := trodAll_cons hA
  obtain ⟨v1, vs1, d1, ds1, p1, q1, rfl, rfl, rfl, h1, r1⟩ := trodAll_cons r0
  obtain ⟨v2, vs2, d2, ds2, p2, q2, rfl, rfl, rfl, h2, r2⟩ := trodAll_cons r1
  obtain ⟨v3, vs3, d3, ds3, p3, q3, rfl, rfl, rfl, h3, r3⟩ := trodAll_cons r2
  obtain ⟨v4, vs4, d4, ds4, p4, q4, rfl, rfl, rfl, h4, r4⟩ := trodAll_cons r3
  obtain ⟨rfl, rfl, rfl⟩ := trodAll_nil r4
  obtain rfl : args = #[v0, v1, v2, v3, v4] := by cases args; simp_all
  obtain ⟨rfl, rfl⟩ := trodVars_none hV
  have lt0 := trod_lt' h0
  have z0 : ∀ m ∈ d0.weights Try.prog 22, m ≤ reachBytes := fun m hm => by simpa using List.all_eq_true.1 hsz m (DataW.weights_mem_each (j := 0) (t := 22) rfl rfl m hm)
  obtain ⟨x0, K0, o0⟩ := arg_trod (tr_slice Try.underlying22 (by kernel_rfl) (by kernel_rfl) (tr_u8 Try.underlying5)) h0 z0
  obtain ⟨a0, len0, cap0, rfl⟩ := okWide_slice Try.underlying22 (hval 0 22 v0 rfl rfl)
  obtain ⟨y0, e0, R0⟩ := K0
  obtain rfl : .slice a0 len0 cap0 = y0 := by simpa [Value.cells] using e0
  have lt1 := trod_lt' h1
  have z1 : ∀ m ∈ d1.weights Try.prog 3, m ≤ reachBytes := fun m hm => by simpa using List.all_eq_true.1 hsz m (DataW.weights_mem_each (j := 1) (t := 3) rfl rfl m hm)
  obtain ⟨x1, K1, o1⟩ := arg_trod (tr_int Try.underlying3) h1 z1
  obtain ⟨n1, rfl⟩ := okWide_int Try.underlying3 (hval 1 3 v1 rfl rfl)
  obtain rfl : x1 = n1 := by symm; have e : (Value.cells (.int .i64 n1)).toList = [.int .i64 x1] := K1; simpa [Value.cells] using e
  have lt2 := trod_lt' h2
  have z2 : ∀ m ∈ d2.weights Try.prog 3, m ≤ reachBytes := fun m hm => by simpa using List.all_eq_true.1 hsz m (DataW.weights_mem_each (j := 2) (t := 3) rfl rfl m hm)
  obtain ⟨x2, K2, o2⟩ := arg_trod (tr_int Try.underlying3) h2 z2
  obtain ⟨n2, rfl⟩ := okWide_int Try.underlying3 (hval 2 3 v2 rfl rfl)
  obtain rfl : x2 = n2 := by symm; have e : (Value.cells (.int .i64 n2)).toList = [.int .i64 x2] := K2; simpa [Value.cells] using e
  have lt3 := trod_lt' h3
  have z3 : ∀ m ∈ d3.weights Try.prog 3, m ≤ reachBytes := fun m hm => by simpa using List.all_eq_true.1 hsz m (DataW.weights_mem_each (j := 3) (t := 3) rfl rfl m hm)
  obtain ⟨x3, K3, o3⟩ := arg_trod (tr_int Try.underlying3) h3 z3
  obtain ⟨n3, rfl⟩ := okWide_int Try.underlying3 (hval 3 3 v3 rfl rfl)
  obtain rfl : x3 = n3 := by symm; have e : (Value.cells (.int .i64 n3)).toList = [.int .i64 x3] := K3; simpa [Value.cells] using e
  have lt4 := trod_lt' h4
  have z4 : ∀ m ∈ d4.weights Try.prog 3, m ≤ reachBytes := fun m hm => by simpa using List.all_eq_true.1 hsz m (DataW.weights_mem_each (j := 4) (t := 3) rfl rfl m hm)
  obtain ⟨x4, K4, o4⟩ := arg_trod (tr_int Try.underlying3) h4 z4
  obtain ⟨n4, rfl⟩ := okWide_int Try.underlying3 (hval 4 3 v4 rfl rfl)
  obtain rfl : x4 = n4 := by symm; have e : (Value.cells (.int .i64 n4)).toList = [.int .i64 x4] := K4; simpa [Value.cells] using e
  clear hA0 hval0 hsz0 hsz
  obtain ⟨K, r, HK⟩ := hocketlaw19_XferServes.pure x0 x1 x2 x3 x4 o0 o1 o2 o3 o4
  refine (hocketlaw19_XferServes.calls K x0 _ x1 x2 x3 x4 r W W (hp W) (hp W) (Mem.le.refl _) (sep_start W) R0 HK).mono fun e W' ⟨v, he, N, hv, hS⟩ => ?_
  have bel := below_of_sep hS
  subst he hv
  exact ⟨_, rfl, _, _, _, [], _, [], hW', trodAll_mk1 (shut_bool Try.underlying4 _), (trodAll_cons_mk (Below.trod laidOut (by kernel_rfl) (of_decide_eq_true (by kernel_rfl)) h0 bel lt0) (trodAll_cons_mk (Below.trod laidOut (by kernel_rfl) (of_decide_eq_true (by kernel_rfl)) h1 bel lt1) (trodAll_cons_mk (Below.trod laidOut (by kernel_rfl) (of_decide_eq_true (by kernel_rfl)) h2 bel lt2) (trodAll_cons_mk (Below.trod laidOut (by kernel_rfl) (of_decide_eq_true (by kernel_rfl)) h3 bel lt3) (trodAll_cons_mk (Below.trod laidOut (by kernel_rfl) (of_decide_eq_true (by kernel_rfl)) h4 bel lt4) trodAll_mk0))))), rfl, bel.frame _, fun h => by cases h⟩
theorem over : Rows.xferServesRow.holds Try.pinned (OpenSpec.ofChange Rows.xferServesSpec) :=
  OpenClaim.holds_of_wide 7 Try.f7 rfl rfl rfl rfl rfl rfl rfl ⟨rfl, rfl, rfl, rfl, rfl⟩ rfl rfl rfl rfl rfl (by kernel_rfl) Try.func7 (by kernel_rfl)
    (of_decide_eq_true (by kernel_rfl)) (by unfold Func.isWrapper; first | (rw [if_pos (by decide +kernel)]; kernel_rfl) | (rw [if_neg (by decide +kernel)]; exact ⟨rfl, rfl⟩))
    (fun os started H enc _ => lifted os started H enc)
theorem proved : Rows.XferServesSaid := over
#print axioms proved
end Go.Proofs.Ytploijfgnnkddaa.xferServes
namespace Go.Proofs.Ytploijfgnnkddaa
/-- The row, under a short name, for the claim. -/
theorem xferServes_holds : Rows.XferServesSaid := xferServes.proved
end Go.Proofs.Ytploijfgnnkddaa
