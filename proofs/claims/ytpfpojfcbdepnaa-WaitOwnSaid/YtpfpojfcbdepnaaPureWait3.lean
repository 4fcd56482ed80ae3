/- What the statements say, of the plain functions. -/
import Derived.Test.YtpfpojfcbdepnaaDefs
import Derived.Test.YtpfpojfcbdepnaaLe
import Derived.Test.YtpfpojfcbdepnaaThMsg
/- Layer 20: who asks again, and whose calls they are. -/
namespace Go.Gp
open Go
theorem awake20 : hocketlaw20_awake.f 100 = some () := by decide +kernel
theorem twice_m (x0 : Int) (x1 : Bool) : hocketlaw20_WaitTwice.f 100 x0 x1 = hocketlaw20_WaitTwice.f 100 (x0 % 8) x1 := by
  have h1 : band .i64 x0 7 = x0 % 8 := band_m x0 7 3 rfl (by decide)
  have h2 : band .i64 (x0 % 8) 7 = x0 % 8 := by rw [band_m (x0 % 8) 7 3 rfl (by decide)]; omega
  unfold hocketlaw20_WaitTwice.f hocketlaw20_WaitTwice.L1 hocketlaw20_WaitTwice.B1
  rw [h1, h2]
theorem hocketlaw20_WaitTwice.pure (x0 : Int) (x1 : Bool) {o0 : Prop} (_ : o0) : ∃ K r, hocketlaw20_WaitTwice.f K x0 x1 = some r := by
  refine ⟨100, (), ?_⟩
  rw [twice_m]
  have : x0 % 8 = 0 ∨ x0 % 8 = 1 ∨ x0 % 8 = 2 ∨ x0 % 8 = 3 ∨ x0 % 8 = 4 ∨ x0 % 8 = 5 ∨ x0 % 8 = 6 ∨ x0 % 8 = 7 := by omega
  generalize x0 % 8 = m at this ⊢
  rcases this with rfl | rfl | rfl | rfl | rfl | rfl | rfl | rfl <;> cases x1 <;> decide +kernel
theorem still_eq {e : api_Entry} (h : CmdOk e.Cmd) : mach_StillEntry.f e = some e := by
  obtain ⟨h1, h2, h3⟩ := h
  have c : ∀ x : List UInt8, x.length ≤ 17 → slices_Clone_sbyte_byte.f x = some x := fun x hx => by
    unfold slices_Clone_sbyte_byte.f; rw [app_eq (by simp; omega)]; rfl
  unfold mach_StillEntry.f
  rw [c _ h1, c _ h2, c _ h3]
  rfl
theorem call1 {e : api_Entry} (h : CmdOk e.Cmd) : wait_Calls_Call.f 100 [] [] e = some (true, [⟨e, false⟩], []) := by
  unfold wait_Calls_Call.f
  rw [show wait_Calls_find.f 100 [] [] e = some (-1) from rfl]
  simp only [Option.bind_some]
  rw [if_neg (by decide), if_neg (by decide), still_eq h]
  rfl
theorem next1 {e : api_Entry} (h : CmdOk e.Cmd) : wait_Calls_Next.f 100 [⟨e, false⟩] [] 1 = some ([e], [⟨e, true⟩], []) := by
  have hx : ix [(⟨e, false⟩ : wait_call)] 0 = some ⟨e, false⟩ := ix_eq (by decide) rfl
  have : Sat (wait_Calls_Next.f 100 [⟨e, false⟩] [] 1) (fun r => r = ([e], [⟨e, true⟩], [])) := by
    unfold wait_Calls_Next.f wait_Calls_Next.L1
    show Sat (iter _ (98 + 1 + 1) _) _
    rw [iter_succ]
    show Sat (wait_Calls_Next.B1 100 [⟨e, false⟩] 1 _ _ [] [⟨e, false⟩] 0) _
    unfold wait_Calls_Next.B1
    refine sat_t (by show (0 : Int) < 1; decide) (sat_b hx (sat_f (by show ¬false = true; decide) ?_))
    unfold wait_Calls_Next.J2
    refine sat_t (by show decide ((0 : Int) < 1) = true; decide) (sat_b hx (sat_b (still_eq h) (sat_b (app_eq (by show 0 + 1 ≤ 1353245080339; decide)) ?_)))
    rw [iter_succ]
    refine sat_f (by show ¬(w64 (0 + 1) < (1 : Int)); decide) (sat_r rfl)
  obtain ⟨r, h1, rfl⟩ := this
  exact h1
theorem again1 (e : api_Entry) : wait_Calls_Again.f 100 [⟨e, true⟩] [] = some ([⟨e, false⟩], []) := rfl
theorem same_e (e : api_Entry) : hocketref4_SameEntry.f e e = some true := by
  unfold hocketref4_SameEntry.f
  simp
theorem own_j3 {e : api_Entry} (h : CmdOk e.Cmd) : Sat (hocketlaw20_WaitOwn.J3 100 ([e], [⟨e, true⟩], []) e) (fun _ => True) := by
  unfold hocketlaw20_WaitOwn.J3
  have hi : ix [e] 0 = some e := ix_eq (by decide) rfl
  exact sat_b (again1 e) (sat_b (next1 h) (sat_t rfl (sat_b hi (sat_b (same_e e) (sat_t rfl (sat_b awake20 (sat_r trivial)))))))
theorem own_j1 {e : api_Entry} (h : CmdOk e.Cmd) : Sat (hocketlaw20_WaitOwn.J1 100 (true, [⟨e, false⟩], []) e) (fun _ => True) := by
  unfold hocketlaw20_WaitOwn.J1
  have hi : ix [e] 0 = some e := ix_eq (by decide) rfl
  refine sat_b (next1 h) (sat_t rfl (sat_b hi (sat_b (same_e e) ?_)))
  unfold hocketlaw20_WaitOwn.J2
  refine sat_f (by decide) (sat_b hi ?_)
  unfold hocketlaw20_WaitOwn.L1
  have hv := h.2.1
  refine sat_loop (fun v : Int => e.Cmd.Val.length - v.toNat) (fun v => 0 ≤ v ∧ v ≤ e.Cmd.Val.length) (fun v hv ag hag => ?_) 100 0 ⟨by omega, by omega⟩ (by simp only [Int.toNat_zero]; omega)
  unfold hocketlaw20_WaitOwn.B1
  refine sat_if (fun hlt => ?_) (fun _ => own_j3 h)
  have hg := ix_get (xs := e.Cmd.Val) hv.1 (by omega)
  refine sat_b hi (sat_b hg (sat_b hg ?_))
  rw [w64_succ hv.1 (by omega)]
  exact hag _ ⟨by omega, by omega⟩ (by omega)
theorem hocketlaw20_WaitOwn.pure (x0 : Int) {o0 : Prop} (_ : o0) : ∃ K r, hocketlaw20_WaitOwn.f K x0 = some r := by
  refine ⟨100, sat_pure ?_⟩
  obtain ⟨e, h1, h2⟩ := entry_ok x0 5
  unfold hocketlaw20_WaitOwn.f
  refine sat_b (v := ([], [])) rfl (sat_b h1 (sat_b h1 (sat_b (call1 h2) (sat_t rfl ?_))))
  unfold hocketlaw20_WaitOwn.L2
  have hv := h2.2.1
  refine sat_loop (fun v : Int => e.Cmd.Val.length - v.toNat) (fun v => 0 ≤ v ∧ v ≤ e.Cmd.Val.length) (fun v hv ag hag => ?_) 100 0 ⟨by omega, by omega⟩ (by simp only [Int.toNat_zero]; omega)
  unfold hocketlaw20_WaitOwn.B2
  refine sat_if (fun hlt => ?_) (fun _ => own_j1 h2)
  have hg := ix_get (xs := e.Cmd.Val) hv.1 (by omega)
  refine sat_b hg (sat_b hg ?_)
  rw [w64_succ hv.1 (by omega)]
  exact hag _ ⟨by omega, by omega⟩ (by omega)
end Go.Gp
