/- The law XferPlays returns true at every input, and its arguments read as before; under no condition but the statement's own -/
import Derived.Test.YtploijfgnnkddaaGreatRows
import Derived.WalkKit
import Derived.ProofKit
import Derived.OpenShut
import Derived.ShutString
import Derived.ChangeOld
import Derived.Below
import Derived.SizedLaws
import Derived.Carry
import Derived.Test.YtploijfgnnkddaaGreatXferPlaysc4
import Derived.Test.YtploijfgnnkddaaGreatLd
import Derived.Test.YtploijfgnnkddaaGreatThInts
import Derived.Test.YtploijfgnnkddaaGreatThPack
import Derived.Test.YtploijfgnnkddaaGreatThMesg
import Derived.Test.YtploijfgnnkddaaGreatThMesg2
import Derived.Test.YtploijfgnnkddaaGreatThMesg3
import Derived.Test.YtploijfgnnkddaaGreatThMesg4
import Derived.Test.YtploijfgnnkddaaGreatThMesg5
import Derived.Test.YtploijfgnnkddaaGreatThMesg6
import Derived.Test.YtploijfgnnkddaaGreatThMsg
import Derived.Test.YtploijfgnnkddaaGreatThMesg7
import Derived.Test.YtploijfgnnkddaaGreatThMesg8
import Derived.Test.YtploijfgnnkddaaGreatThMesgS
import Derived.Test.YtploijfgnnkddaaGreatGpCrc
import Derived.Test.YtploijfgnnkddaaGreatThCrc
import Derived.Test.YtploijfgnnkddaaGreatThFram
import Derived.Test.YtploijfgnnkddaaGreatThPack1
import Derived.Test.YtploijfgnnkddaaGreatThMesg9
import Derived.Test.YtploijfgnnkddaaGreatThMesg10
import Derived.Test.YtploijfgnnkddaaGreatThRows
import Derived.Test.YtploijfgnnkddaaGreatThMach
import Derived.Test.YtploijfgnnkddaaGreatThMach2
import Derived.Test.YtploijfgnnkddaaGreatThMach3
import Derived.Test.YtploijfgnnkddaaGreatThMach4
import Derived.Test.YtploijfgnnkddaaGreatThBlob
import Derived.Test.YtploijfgnnkddaaGreatThBlob2
import Derived.Test.YtploijfgnnkddaaGreatThStep
import Derived.Test.YtploijfgnnkddaaGreatThState
import Derived.Test.YtploijfgnnkddaaGreatThXfer
import Derived.Test.YtploijfgnnkddaaGreatThXfer2
import Derived.Test.YtploijfgnnkddaaGreatThAsk
import Derived.Test.YtploijfgnnkddaaGreatPureXPlays4
namespace Go.Proofs.YtploijfgnnkddaaGreat.xferPlays
open Go.ChangeShapes Go.WideShapes Go.ChangeAt Go.RowKit Go.Gp
set_option linter.unusedVariables false
theorem own : ownKnob Tryz.prog.godebug = none := by kernel_rfl
theorem laidOut : laidOutB Tryz.prog = true := by kernel_rfl
theorem bulkAll_mem {H : Type} {d : DataW H} {l : List (DataW H)} (h : d ∈ l) : Rows.uptoBulk d ≤ Rows.uptoBulkAll l := by
  induction l with
  | nil => cases h
  | cons x r ih =>
    simp only [Rows.uptoBulkAll]
    rcases List.mem_cons.1 h with rfl | e
    · omega
    · have := ih e; omega
theorem bulk_pos {H : Type} (d : DataW H) : 1 ≤ Rows.uptoBulk d := by
  cases d with
  | lit l => cases l <;> simp [Rows.uptoBulk]
  | _ => simp [Rows.uptoBulk]
theorem bulkAll_len {H : Type} (l : List (DataW H)) : l.length ≤ Rows.uptoBulkAll l := by
  induction l with
  | nil => simp [Rows.uptoBulkAll]
  | cons x r ih => have := bulk_pos x; simp only [Rows.uptoBulkAll, List.length_cons]; omega
theorem bulk : B0z (fun {H : Type} (d : DataW H) => Rows.uptoBulk d) where
  sl := fun es rs => ⟨by have := bulkAll_len es; simp only [Rows.uptoBulk]; omega, fun e he => by have := bulkAll_mem he; simp only [Rows.uptoBulk]; omega⟩
  ag := fun ps e he => by have := bulkAll_mem he; simp only [Rows.uptoBulk]; omega
set_option maxHeartbeats 4000000 in
set_option maxRecDepth 100000 in
theorem lifted (os : Os) (started : os.Started) (H : Type) (enc : TypeId × Value → H) (F : Stop.Interp) :
    ReturnsInHanded {} Tryz.checked os 4 .any ((Rows.OpenSpec.upto Rows.xferPlaysSpec).pre6 enc Tryz.prog Tryz.f4 Rows.xferPlaysUptoRow.domain false) (((Rows.OpenSpec.upto Rows.xferPlaysSpec).at F).post enc Tryz.prog Tryz.f4 false true false false) := by
  refine returnsInHanded_of_cond_sized (C := Tryz.checked) (s := (Rows.OpenSpec.upto Rows.xferPlaysSpec)) (k := Rows.uptoSmall) rfl own started (by kernel_rfl) Tryz.func4
    (OpenSpec.witness (enc := enc) (C := Tryz.checked) (s := (Rows.OpenSpec.upto Rows.xferPlaysSpec)) (k := Rows.uptoSmall) rfl false ⟨#[], #[.slice none 0 0, .int .i64 0, .int .i64 0, .slice none 0 0, .slice none 0 0], []⟩ 8 (by kernel_rfl) (by kernel_rfl) (by kernel_rfl) (x := ([.nil, .lit (.int .i64 0), .lit (.int .i64 0), .nil, .nil], [], [])) (by kernel_rfl) rfl (by kernel_rfl)) ?_
  intro W base args ds gs before hval0 hW hcnd hkk hsz0 _
  have hB : Rows.uptoBulkAll (ds ++ gs) ≤ 1048576 := of_decide_eq_true hkk
  clear hkk
  have hsz : (DataW.weightsEach Tryz.prog (Tryz.f4.params.toList ++ Rows.xferPlaysSpec.plain.varTypes Tryz.prog) (ds ++ gs)).all (· ≤ reachBytes) = true := hsz0
  have hval : ∀ (j : Nat) t v, Tryz.f4.params[j]? = some t → args[j]? = some v → Value.okWide Tryz.prog W .any base t v := hval0
  have hW' := hW
  obtain ⟨p, q, hA0, hV, rfl, hfz, hnd⟩ := hW
  have hA : DataW.TrodAll enc Tryz.prog W 0 (fun _ => true) true Tryz.f4.params.toList args.toList ds p := hA0
  rw [Tryz.params4] at hA hval hsz
  obtain ⟨v0, vs0, d0, ds0, p0, q0, hargs, rfl, rfl, h0, r0⟩ := trodAll_cons hA
  obtain ⟨v1, vs1, d1, ds1, p1, q1, rfl, rfl, rfl, h1, r1⟩ := trodAll_cons r0
  obtain ⟨v2, vs2, d2, ds2, p2, q2, rfl, rfl, rfl, h2, r2⟩ := trodAll_cons r1
  obtain ⟨v3, vs3, d3, ds3, p3, q3, rfl, rfl, rfl, h3, r3⟩ := trodAll_cons r2
  obtain ⟨v4, vs4, d4, ds4, p4, q4, rfl, rfl, rfl, h4, r4⟩ := trodAll_cons r3
  obtain ⟨rfl, rfl, rfl⟩ := trodAll_nil r4
  obtain rfl : args = #[v0, v1, v2, v3, v4] := by cases args; simp_all
  obtain ⟨rfl, rfl⟩ := trodVars_none hV
  simp only [List.append_nil, Rows.uptoBulkAll] at hB
  have lt0 := trod_lt' h0
  have z0 : ∀ m ∈ d0.weights Tryz.prog 22, m ≤ reachBytes := fun m hm => by simpa using List.all_eq_true.1 hsz m (DataW.weights_mem_each (j := 0) (t := 22) rfl rfl m hm)
  obtain ⟨x0, K0, o0⟩ := A3l (b := fun {H : Type} (d : DataW H) => Rows.uptoBulk d) (B := 1048576) (A1C bulk Tryz.underlying22 (by kernel_rfl) (TR.bulk (Z7 Tryz.underlying3))) h0 z0 (by omega)
  obtain ⟨a0, len0, cap0, rfl⟩ := okWide_slice Tryz.underlying22 (hval 0 22 v0 rfl rfl)
  obtain ⟨y0, e0, R0⟩ := K0
  obtain rfl : .slice a0 len0 cap0 = y0 := by simpa [Value.cells] using e0
  have lt1 := trod_lt' h1
  have z1 : ∀ m ∈ d1.weights Tryz.prog 3, m ≤ reachBytes := fun m hm => by simpa using List.all_eq_true.1 hsz m (DataW.weights_mem_each (j := 1) (t := 3) rfl rfl m hm)
  obtain ⟨x1, K1, o1⟩ := A3l (b := fun {H : Type} (d : DataW H) => Rows.uptoBulk d) (B := 1048576) (TR.bulk (Z7 Tryz.underlying3)) h1 z1 (by omega)
  obtain ⟨n1, rfl⟩ := okWide_int Tryz.underlying3 (hval 1 3 v1 rfl rfl)
  obtain rfl : x1 = n1 := by symm; have e : (Value.cells (.int .i64 n1)).toList = [.int .i64 x1] := K1; simpa [Value.cells] using e
  have lt2 := trod_lt' h2
  have z2 : ∀ m ∈ d2.weights Tryz.prog 3, m ≤ reachBytes := fun m hm => by simpa using List.all_eq_true.1 hsz m (DataW.weights_mem_each (j := 2) (t := 3) rfl rfl m hm)
  obtain ⟨x2, K2, o2⟩ := A3l (b := fun {H : Type} (d : DataW H) => Rows.uptoBulk d) (B := 1048576) (TR.bulk (Z7 Tryz.underlying3)) h2 z2 (by omega)
  obtain ⟨n2, rfl⟩ := okWide_int Tryz.underlying3 (hval 2 3 v2 rfl rfl)
  obtain rfl : x2 = n2 := by symm; have e : (Value.cells (.int .i64 n2)).toList = [.int .i64 x2] := K2; simpa [Value.cells] using e
  have lt3 := trod_lt' h3
  have z3 : ∀ m ∈ d3.weights Tryz.prog 22, m ≤ reachBytes := fun m hm => by simpa using List.all_eq_true.1 hsz m (DataW.weights_mem_each (j := 3) (t := 22) rfl rfl m hm)
  obtain ⟨x3, K3, o3⟩ := A3l (b := fun {H : Type} (d : DataW H) => Rows.uptoBulk d) (B := 1048576) (A1C bulk Tryz.underlying22 (by kernel_rfl) (TR.bulk (Z7 Tryz.underlying3))) h3 z3 (by omega)
  obtain ⟨a3, len3, cap3, rfl⟩ := okWide_slice Tryz.underlying22 (hval 3 22 v3 rfl rfl)
  obtain ⟨y3, e3, R3⟩ := K3
  obtain rfl : .slice a3 len3 cap3 = y3 := by simpa [Value.cells] using e3
  have lt4 := trod_lt' h4
  have z4 : ∀ m ∈ d4.weights Tryz.prog 53, m ≤ reachBytes := fun m hm => by simpa using List.all_eq_true.1 hsz m (DataW.weights_mem_each (j := 4) (t := 53) rfl rfl m hm)
  obtain ⟨x4, K4, o4⟩ := A3l (b := fun {H : Type} (d : DataW H) => Rows.uptoBulk d) (B := 1048576) (A1C bulk Tryz.underlying53 (by kernel_rfl) (show TRb (fun {H : Type} (d : DataW H) => Rows.uptoBulk d) 1048576 Tryz.prog 47 A2j A5e from A4o bulk (fun x : C3 => (x.Kind, (x.From, (x.To, (x.View, (x.Inst, (x.Len, (x.Has, (x.Members, (x.Source, (x.At, (x.Total, (x.Data, (x.Hop, (x.Seq, (x.Have, (x.Need, (x.Index, x.Entry)))))))))))))))))) (fun u => (⟨u.1, u.2.1, u.2.2.1, u.2.2.2.1, u.2.2.2.2.1, u.2.2.2.2.2.1, u.2.2.2.2.2.2.1, u.2.2.2.2.2.2.2.1, u.2.2.2.2.2.2.2.2.1, u.2.2.2.2.2.2.2.2.2.1, u.2.2.2.2.2.2.2.2.2.2.1, u.2.2.2.2.2.2.2.2.2.2.2.1, u.2.2.2.2.2.2.2.2.2.2.2.2.1, u.2.2.2.2.2.2.2.2.2.2.2.2.2.1, u.2.2.2.2.2.2.2.2.2.2.2.2.2.2.1, u.2.2.2.2.2.2.2.2.2.2.2.2.2.2.2.1, u.2.2.2.2.2.2.2.2.2.2.2.2.2.2.2.2.1, u.2.2.2.2.2.2.2.2.2.2.2.2.2.2.2.2.2⟩ : C3)) (fun _ => rfl) Tryz.underlying47 (by kernel_rfl) (U1 rfl (by kernel_rfl) (TR.bulk (Z7 Tryz.underlying3)) (U1 rfl (by kernel_rfl) (TR.bulk (Z7 Tryz.underlying3)) (U1 rfl (by kernel_rfl) (TR.bulk (Z7 Tryz.underlying3)) (U1 rfl (by kernel_rfl) (TR.bulk (Z7 Tryz.underlying3)) (U1 rfl (by kernel_rfl) (TR.bulk (Z7 Tryz.underlying3)) (U1 rfl (by kernel_rfl) (TR.bulk (Z7 Tryz.underlying3)) (U1 rfl (by kernel_rfl) (TR.bulk (B0N Tryz.underlying4)) (U1 rfl (by kernel_rfl) (TR.bulk (Z7 Tryz.underlying3)) (U1 rfl (by kernel_rfl) (TR.bulk (Z7 Tryz.underlying3)) (U1 rfl (by kernel_rfl) (TR.bulk (Z7 Tryz.underlying3)) (U1 rfl (by kernel_rfl) (TR.bulk (Z7 Tryz.underlying3)) (U1 rfl (by kernel_rfl) (A1C bulk Tryz.underlying23 (by kernel_rfl) (TR.bulk (A6Z Tryz.underlying5))) (U1 rfl (by kernel_rfl) (TR.bulk (Z7 Tryz.underlying3)) (U1 rfl (by kernel_rfl) (TR.bulk (Z7 Tryz.underlying3)) (U1 rfl (by kernel_rfl) (A1C bulk Tryz.underlying22 (by kernel_rfl) (TR.bulk (Z7 Tryz.underlying3))) (U1 rfl (by kernel_rfl) (A1C bulk Tryz.underlying22 (by kernel_rfl) (TR.bulk (Z7 Tryz.underlying3))) (U1 rfl (by kernel_rfl) (TR.bulk (Z7 Tryz.underlying3)) (A5i rfl (by kernel_rfl) (show TRb (fun {H : Type} (d : DataW H) => Rows.uptoBulk d) 1048576 Tryz.prog 45 F4 A4B from A4o bulk (fun x : B8 => (x.Sess, (x.Seq, x.Cmd))) (fun u => (⟨u.1, u.2.1, u.2.2⟩ : B8)) (fun _ => rfl) Tryz.underlying45 (by kernel_rfl) (U1 rfl (by kernel_rfl) (TR.bulk (Z7 Tryz.underlying3)) (U1 rfl (by kernel_rfl) (TR.bulk (Z7 Tryz.underlying3)) (A5i rfl (by kernel_rfl) (show TRb (fun {H : Type} (d : DataW H) => Rows.uptoBulk d) 1048576 Tryz.prog 43 A1R A5f from A4o bulk (fun x : L6 => (x.Kind, (x.Who, (x.Key, (x.Val, x.Old))))) (fun u => (⟨u.1, u.2.1, u.2.2.1, u.2.2.2.1, u.2.2.2.2⟩ : L6)) (fun _ => rfl) Tryz.underlying43 (by kernel_rfl) (U1 rfl (by kernel_rfl) (TR.bulk (Z7 Tryz.underlying3)) (U1 rfl (by kernel_rfl) (TR.bulk (Z7 Tryz.underlying3)) (U1 rfl (by kernel_rfl) (A1C bulk Tryz.underlying23 (by kernel_rfl) (TR.bulk (A6Z Tryz.underlying5))) (U1 rfl (by kernel_rfl) (A1C bulk Tryz.underlying23 (by kernel_rfl) (TR.bulk (A6Z Tryz.underlying5))) (A5i rfl (by kernel_rfl) (A1C bulk Tryz.underlying23 (by kernel_rfl) (TR.bulk (A6Z Tryz.underlying5))))))))))))))))))))))))))))))))) h4 z4 (by omega)
  obtain ⟨a4, len4, cap4, rfl⟩ := okWide_slice Tryz.underlying53 (hval 4 53 v4 rfl rfl)
  obtain ⟨y4, e4, R4⟩ := K4
  obtain rfl : .slice a4 len4 cap4 = y4 := by simpa [Value.cells] using e4
  clear hA0 hval0 hsz0 hsz
  obtain ⟨K, r, HK⟩ := A3.pure x0 x1 x2 x3 x4 o0 o1 o2 o3 o4
  refine (A3.calls K x0 _ x1 x2 x3 _ x4 _ r W W (hp W) (hp W) (Mem.le.refl _) (A9o W) R0 R3 R4 HK).mono fun e W' ⟨v, he, N, hv, hS⟩ => ?_
  have bel := A7L hS
  subst he hv
  exact ⟨_, rfl, _, _, _, [], _, [], hW', trodAll_mk1 (shut_bool Tryz.underlying4 _), (trodAll_cons_mk (Below.trod laidOut (by kernel_rfl) (of_decide_eq_true (by kernel_rfl)) h0 bel lt0) (trodAll_cons_mk (Below.trod laidOut (by kernel_rfl) (of_decide_eq_true (by kernel_rfl)) h1 bel lt1) (trodAll_cons_mk (Below.trod laidOut (by kernel_rfl) (of_decide_eq_true (by kernel_rfl)) h2 bel lt2) (trodAll_cons_mk (Below.trod laidOut (by kernel_rfl) (of_decide_eq_true (by kernel_rfl)) h3 bel lt3) (trodAll_cons_mk (Below.trod laidOut (by kernel_rfl) (of_decide_eq_true (by kernel_rfl)) h4 bel lt4) trodAll_mk0))))), rfl, bel.frame _, fun h => by cases h⟩
theorem over : Rows.xferPlaysUptoRow.holds Tryz.pinned (Rows.OpenSpec.upto Rows.xferPlaysSpec) :=
  OpenClaim.holds_of_cond 4 Tryz.f4 rfl rfl rfl rfl rfl rfl rfl ⟨rfl, rfl, rfl, rfl, rfl⟩ rfl rfl rfl rfl rfl (by kernel_rfl) Tryz.func4 (by kernel_rfl)
    (of_decide_eq_true (by kernel_rfl)) (by unfold Func.isWrapper; first | (rw [if_pos (by decide +kernel)]; kernel_rfl) | (rw [if_neg (by decide +kernel)]; exact ⟨rfl, rfl⟩))
    (fun os started H enc _ F => lifted os started H enc F)
theorem proved : Rows.XferPlaysUptoSaid := over
#print axioms proved
end Go.Proofs.YtploijfgnnkddaaGreat.xferPlays
namespace Go.Proofs.YtploijfgnnkddaaGreat
theorem xferPlays_holds : Rows.XferPlaysUptoSaid := xferPlays.proved
end Go.Proofs.YtploijfgnnkddaaGreat
