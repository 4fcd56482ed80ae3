/- The law DiskPlays returns true at every input, and its arguments read as before; under no condition but the statement's own -/
import Derived.Test.YtlofhblfdkjloaaRows
import Derived.WalkKit
import Derived.ProofKit
import Derived.OpenShut
import Derived.ShutString
import Derived.ChangeOld
import Derived.Below
import Derived.SizedLaws
import Derived.Carry
import Derived.Test.YtlofhblfdkjloaaDiskPlaysc3
import Derived.Test.YtlofhblfdkjloaaLd
import Derived.Test.YtlofhblfdkjloaaGpCrc
import Derived.Test.YtlofhblfdkjloaaThPack
import Derived.Test.YtlofhblfdkjloaaThPack1
import Derived.Test.YtlofhblfdkjloaaThCrc
import Derived.Test.YtlofhblfdkjloaaThDisk
import Derived.Test.YtlofhblfdkjloaaThDisk2
import Derived.Test.YtlofhblfdkjloaaPureDisk
namespace Go.Proofs.Ytlofhblfdkjloaa.diskPlays
open Go.ChangeShapes Go.WideShapes Go.ChangeAt Go.RowKit Go.Gp
set_option linter.unusedVariables false
theorem own : ownKnob Try.prog.godebug = none := by kernel_rfl
theorem laidOut : laidOutB Try.prog = true := by kernel_rfl
set_option maxHeartbeats 4000000 in
set_option maxRecDepth 100000 in
theorem lifted (os : Os) (started : os.Started) (H : Type) (enc : TypeId × Value → H) :
    ReturnsInHanded {} Try.checked os 6 .any (Rows.diskPlaysSpec.pre6 enc Try.prog Try.f6 Rows.diskPlaysRow.domain false) (Rows.diskPlaysSpec.post enc Try.prog Try.f6 false true false false) := by
  refine returnsInHanded_of_change_sized (C := Try.checked) own started (by kernel_rfl) Try.func6
    (ChangeSpec.witness6 (enc := enc) (C := Try.checked) false ⟨#[], #[.agg [(.slice none 0 0), (.slice none 0 0)].toArray, .bool false, .slice none 0 0, .slice none 0 0], []⟩ 8 (by kernel_rfl) (by kernel_rfl) (by kernel_rfl) (by kernel_rfl)) ?_
  intro W base args ds gs before hval0 hW hcnd hsz0 _
  have hsz : (DataW.weightsEach Try.prog (Try.f6.params.toList ++ Rows.diskPlaysSpec.plain.varTypes Try.prog) (ds ++ gs)).all (· ≤ reachBytes) = true := hsz0
  have hval : ∀ (j : Nat) t v, Try.f6.params[j]? = some t → args[j]? = some v → Value.okWide Try.prog W .any base t v := hval0
  have hW' := hW
  obtain ⟨p, q, hA0, hV, rfl, hfz, hnd⟩ := hW
  have hA : DataW.TrodAll enc Try.prog W 0 (fun _ => true) true Try.f6.params.toList args.toList ds p := hA0
  rw [Try.params6] at hA hval hsz
  obtain ⟨v0, vs0, d0, ds0, p0, q0, hargs, rfl, rfl, h0, r0⟩ := trodAll_cons hA
  obtain ⟨v1, vs1, d1, ds1, p1, q1, rfl, rfl, rfl, h1, r1⟩ := trodAll_cons r0
  obtain ⟨v2, vs2, d2, ds2, p2, q2, rfl, rfl, rfl, h2, r2⟩ := trodAll_cons r1
  obtain ⟨v3, vs3, d3, ds3, p3, q3, rfl, rfl, rfl, h3, r3⟩ := trodAll_cons r2
  obtain ⟨rfl, rfl, rfl⟩ := trodAll_nil r3
  obtain rfl : args = #[v0, v1, v2, v3] := by cases args; simp_all
  obtain ⟨rfl, rfl⟩ := trodVars_none hV
  have lt0 := trod_lt' h0
  have z0 : ∀ m ∈ d0.weights Try.prog 25, m ≤ reachBytes := fun m hm => by simpa using List.all_eq_true.1 hsz m (DataW.weights_mem_each (j := 0) (t := 25) rfl rfl m hm)
  obtain ⟨x0, K0, o0⟩ := arg_trod (show TR Try.prog 25 k_api_Disk ok_api_Disk from tr_struct (fun x : api_Disk => (x.A, x.B)) (fun u => (⟨u.1, u.2⟩ : api_Disk)) (fun _ => rfl) Try.underlying25 (by kernel_rfl) (trs_cons rfl (by kernel_rfl) (tr_slice Try.underlying23 (by kernel_rfl) (by kernel_rfl) (tr_u8 Try.underlying5)) (trs_one rfl (by kernel_rfl) (tr_slice Try.underlying23 (by kernel_rfl) (by kernel_rfl) (tr_u8 Try.underlying5))))) h0 z0
  obtain ⟨c0, rfl, _⟩ := okWide_struct Try.underlying25 (hval 0 25 v0 rfl rfl)
  obtain ⟨v0_0, v0_1, e0, R0_0, R0_1⟩ := k_api_Disk.open' (show k_api_Disk.K _ x0 c0.toList from K0)
  obtain rfl : c0 = [v0_0, v0_1].toArray := by rw [← Array.toArray_toList (xs := c0), e0]
  have lt1 := trod_lt' h1
  have z1 : ∀ m ∈ d1.weights Try.prog 4, m ≤ reachBytes := fun m hm => by simpa using List.all_eq_true.1 hsz m (DataW.weights_mem_each (j := 1) (t := 4) rfl rfl m hm)
  obtain ⟨x1, K1, o1⟩ := arg_trod (tr_bool Try.underlying4) h1 z1
  obtain ⟨n1, rfl⟩ := okWide_bool Try.underlying4 (hval 1 4 v1 rfl rfl)
  obtain rfl : x1 = n1 := by symm; have e : (Value.cells (.bool n1)).toList = [.bool x1] := K1; simpa [Value.cells] using e
  have lt2 := trod_lt' h2
  have z2 : ∀ m ∈ d2.weights Try.prog 22, m ≤ reachBytes := fun m hm => by simpa using List.all_eq_true.1 hsz m (DataW.weights_mem_each (j := 2) (t := 22) rfl rfl m hm)
  obtain ⟨x2, K2, o2⟩ := arg_trod (tr_slice Try.underlying22 (by kernel_rfl) (by kernel_rfl) (tr_int Try.underlying3)) h2 z2
  obtain ⟨a2, len2, cap2, rfl⟩ := okWide_slice Try.underlying22 (hval 2 22 v2 rfl rfl)
  obtain ⟨y2, e2, R2⟩ := K2
  obtain rfl : .slice a2 len2 cap2 = y2 := by simpa [Value.cells] using e2
  have lt3 := trod_lt' h3
  have z3 : ∀ m ∈ d3.weights Try.prog 22, m ≤ reachBytes := fun m hm => by simpa using List.all_eq_true.1 hsz m (DataW.weights_mem_each (j := 3) (t := 22) rfl rfl m hm)
  obtain ⟨x3, K3, o3⟩ := arg_trod (tr_slice Try.underlying22 (by kernel_rfl) (by kernel_rfl) (tr_int Try.underlying3)) h3 z3
  obtain ⟨a3, len3, cap3, rfl⟩ := okWide_slice Try.underlying22 (hval 3 22 v3 rfl rfl)
  obtain ⟨y3, e3, R3⟩ := K3
  obtain rfl : .slice a3 len3 cap3 = y3 := by simpa [Value.cells] using e3
  clear hA0 hval0 hsz0 hsz
  obtain ⟨K, r, HK⟩ := hocketlaw13_DiskPlays.pure x0 x1 x2 x3 o0 o2 o3
  refine (hocketlaw13_DiskPlays.calls K x0 _ _ x1 x2 _ x3 _ r W W (hp W) (hp W) (Mem.le.refl _) (sep_start W) R0_0 R0_1 R2 R3 HK).mono fun e W' ⟨v, he, N, hv, hS⟩ => ?_
  have bel := below_of_sep hS
  subst he hv
  exact ⟨_, rfl, _, _, _, [], _, [], hW', trodAll_mk1 (shut_bool Try.underlying4 _), (trodAll_cons_mk (Below.trod laidOut (by kernel_rfl) (of_decide_eq_true (by kernel_rfl)) h0 bel lt0) (trodAll_cons_mk (Below.trod laidOut (by kernel_rfl) (of_decide_eq_true (by kernel_rfl)) h1 bel lt1) (trodAll_cons_mk (Below.trod laidOut (by kernel_rfl) (of_decide_eq_true (by kernel_rfl)) h2 bel lt2) (trodAll_cons_mk (Below.trod laidOut (by kernel_rfl) (of_decide_eq_true (by kernel_rfl)) h3 bel lt3) trodAll_mk0)))), rfl, bel.frame _, fun h => by cases h⟩
theorem over : Rows.diskPlaysRow.holds Try.pinned (OpenSpec.ofChange Rows.diskPlaysSpec) :=
  OpenClaim.holds_of_wide 6 Try.f6 rfl rfl rfl rfl rfl rfl rfl ⟨rfl, rfl, rfl, rfl, rfl⟩ rfl rfl rfl rfl rfl (by kernel_rfl) Try.func6 (by kernel_rfl)
    (of_decide_eq_true (by kernel_rfl)) (by unfold Func.isWrapper; first | (rw [if_pos (by decide +kernel)]; kernel_rfl) | (rw [if_neg (by decide +kernel)]; exact ⟨rfl, rfl⟩))
    (fun os started H enc _ => lifted os started H enc)
theorem proved : Rows.DiskPlaysSaid := over
#print axioms proved
end Go.Proofs.Ytlofhblfdkjloaa.diskPlays
namespace Go.Proofs.Ytlofhblfdkjloaa
/-- The row, under a short name, for the claim. -/
theorem diskPlays_holds : Rows.DiskPlaysSaid := diskPlays.proved
end Go.Proofs.Ytlofhblfdkjloaa
