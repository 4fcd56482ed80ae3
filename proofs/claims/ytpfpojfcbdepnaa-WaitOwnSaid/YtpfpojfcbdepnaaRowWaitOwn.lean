/- The law WaitOwn returns true at every input, and its arguments read as before; under no condition but the statement's own -/
import Derived.Test.YtpfpojfcbdepnaaRows
import Derived.WalkKit
import Derived.ProofKit
import Derived.OpenShut
import Derived.ShutString
import Derived.ChangeOld
import Derived.Below
import Derived.SizedLaws
import Derived.Carry
import Derived.Test.YtpfpojfcbdepnaaWaitOwnc0
import Derived.Test.YtpfpojfcbdepnaaLd
import Derived.Test.YtpfpojfcbdepnaaThMsg
import Derived.Test.YtpfpojfcbdepnaaPureWait3
namespace Go.Proofs.Ytpfpojfcbdepnaa.waitOwn
open Go.ChangeShapes Go.WideShapes Go.ChangeAt Go.RowKit Go.Gp
set_option linter.unusedVariables false
theorem own : ownKnob Try.prog.godebug = none := by kernel_rfl
theorem laidOut : laidOutB Try.prog = true := by kernel_rfl
set_option maxHeartbeats 4000000 in
set_option maxRecDepth 100000 in
theorem lifted (os : Os) (started : os.Started) (H : Type) (enc : TypeId × Value → H) :
    ReturnsInHanded {} Try.checked os 4 .any (Rows.waitOwnSpec.pre6 enc Try.prog Try.f4 Rows.waitOwnRow.domain false) (Rows.waitOwnSpec.post enc Try.prog Try.f4 false true false false) := by
  refine returnsInHanded_of_change_sized (C := Try.checked) own started (by kernel_rfl) Try.func4
    (ChangeSpec.witness6 (enc := enc) (C := Try.checked) false ⟨#[], #[.int .i64 0], []⟩ 8 (by kernel_rfl) (by kernel_rfl) (by kernel_rfl) (by kernel_rfl)) ?_
  intro W base args ds gs before hval0 hW hcnd hsz0 _
  have hsz : (DataW.weightsEach Try.prog (Try.f4.params.toList ++ Rows.waitOwnSpec.plain.varTypes Try.prog) (ds ++ gs)).all (· ≤ reachBytes) = true := hsz0
  have hval : ∀ (j : Nat) t v, Try.f4.params[j]? = some t → args[j]? = some v → Value.okWide Try.prog W .any base t v := hval0
  have hW' := hW
  obtain ⟨p, q, hA0, hV, rfl, hfz, hnd⟩ := hW
  have hA : DataW.TrodAll enc Try.prog W 0 (fun _ => true) true Try.f4.params.toList args.toList ds p := hA0
  rw [Try.params4] at hA hval hsz
  obtain ⟨v0, vs0, d0, ds0, p0, q0, hargs, rfl, rfl, h0, r0⟩ := trodAll_cons hA
  obtain ⟨rfl, rfl, rfl⟩ := trodAll_nil r0
  obtain rfl : args = #[v0] := by cases args; simp_all
  obtain ⟨rfl, rfl⟩ := trodVars_none hV
  have lt0 := trod_lt' h0
  have z0 : ∀ m ∈ d0.weights Try.prog 3, m ≤ reachBytes := fun m hm => by simpa using List.all_eq_true.1 hsz m (DataW.weights_mem_each (j := 0) (t := 3) rfl rfl m hm)
  obtain ⟨x0, K0, o0⟩ := arg_trod (tr_int Try.underlying3) h0 z0
  obtain ⟨n0, rfl⟩ := okWide_int Try.underlying3 (hval 0 3 v0 rfl rfl)
  obtain rfl : x0 = n0 := by symm; have e : (Value.cells (.int .i64 n0)).toList = [.int .i64 x0] := K0; simpa [Value.cells] using e
  clear hA0 hval0 hsz0 hsz
  obtain ⟨K, r, HK⟩ := hocketlaw20_WaitOwn.pure x0 o0
  refine (hocketlaw20_WaitOwn.calls K x0 r W W (hp W) (hp W) (Mem.le.refl _) (sep_start W)  HK).mono fun e W' ⟨v, he, N, hv, hS⟩ => ?_
  have bel := below_of_sep hS
  subst he hv
  exact ⟨_, rfl, _, _, _, [], _, [], hW', trodAll_mk1 (shut_bool Try.underlying4 _), (trodAll_cons_mk (Below.trod laidOut (by kernel_rfl) (of_decide_eq_true (by kernel_rfl)) h0 bel lt0) trodAll_mk0), rfl, bel.frame _, fun h => by cases h⟩
theorem over : Rows.waitOwnRow.holds Try.pinned (OpenSpec.ofChange Rows.waitOwnSpec) :=
  OpenClaim.holds_of_wide 4 Try.f4 rfl rfl rfl rfl rfl rfl rfl ⟨rfl, rfl, rfl, rfl, rfl⟩ rfl rfl rfl rfl rfl (by kernel_rfl) Try.func4 (by kernel_rfl)
    (of_decide_eq_true (by kernel_rfl)) (by unfold Func.isWrapper; first | (rw [if_pos (by decide +kernel)]; kernel_rfl) | (rw [if_neg (by decide +kernel)]; exact ⟨rfl, rfl⟩))
    (fun os started H enc _ => lifted os started H enc)
theorem proved : Rows.WaitOwnSaid := over
#print axioms proved
end Go.Proofs.Ytpfpojfcbdepnaa.waitOwn
namespace Go.Proofs.Ytpfpojfcbdepnaa
/-- The row, under a short name, for the claim. -/
theorem waitOwn_holds : Rows.WaitOwnSaid := waitOwn.proved
end Go.Proofs.Ytpfpojfcbdepnaa
