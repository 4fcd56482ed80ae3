/- What the statements say, of the plain functions. -/
import Derived.Test.YtlofhblfdkjloaaDefs
import Derived.Test.YtlofhblfdkjloaaLe
import Derived.Test.YtlofhblfdkjloaaGpCrc
import Derived.Test.YtlofhblfdkjloaaThPack
import Derived.Test.YtlofhblfdkjloaaThPack1
import Derived.Test.YtlofhblfdkjloaaThCrc
import Derived.Test.YtlofhblfdkjloaaThDisk
import Derived.Test.YtlofhblfdkjloaaThDisk2
import Derived.Test.YtlofhblfdkjloaaPureDisk
/- Layer 13: what is but the beginning of a slot; disks of their own. -/
namespace Go.Gp
open Go
theorem read_A_none {s : List UInt8} (h : openS s = none) : readS ⟨s, []⟩ = (norec, false) := by
  unfold readS whichS
  simp only [h, openS_nil]
/-- A byte with one bit turned is another. -/
theorem bit_ne (x : UInt8) (k : Int) (h : 0 ≤ k ∧ k < 8) : x ≠ x ^^^ (toU8 (((1 : UInt8).toNat : Int) * 2 ^ (min (wu64 k : Int).toNat 8))) := by
  have hk : (wu64 k : Int) = k := by
    show (if (false && decide (k % 18446744073709551616 ≥ 9223372036854775808)) = true then k % 18446744073709551616 - 18446744073709551616 else k % 18446744073709551616) = k
    simp only [Bool.false_and, Bool.false_eq_true, if_false]
    omega
  rw [hk]
  have hm : toU8 (((1 : UInt8).toNat : Int) * 2 ^ (min k.toNat 8)) ≠ 0 := by
    obtain ⟨n, rfl⟩ : ∃ n : Nat, k = n := ⟨k.toNat, by omega⟩
    have hn : n < 8 := by omega
    rw [Int.toNat_natCast, Nat.min_eq_left (by omega)]
    have : ∀ m : Fin 8, toU8 (((1 : UInt8).toNat : Int) * 2 ^ (m : Nat)) ≠ 0 := by decide +kernel
    exact this ⟨n, hn⟩
  intro h2
  apply hm
  have := congrArg (fun y => x ^^^ y) h2
  simp only [UInt8.xor_self, ← UInt8.xor_assoc, UInt8.zero_xor] at this
  exact this.symm
theorem hocketlaw13_DiskPrefix.pure (n inc prom inst at_ : Int) {o0 o1 o2 o3 o4 : Prop} (_ : o0) (_ : o1) (_ : o2) (_ : o3) (_ : o4) : ∃ K r, hocketlaw13_DiskPrefix.f K n inc prom inst at_ = some r := by
  refine ⟨1000, sat_pure ?_⟩
  unfold hocketlaw13_DiskPrefix.f
  obtain ⟨r, hr⟩ : ∃ r : api_Record, r = ⟨band .i64 inc 16777215, band .i64 prom 16777215, band .i64 inst 16777215⟩ := ⟨_, rfl⟩
  have hrec : rec40 r = r := by
    rw [hr]
    exact rec40_far (far_m _ _ 24 rfl (by decide)) (far_m _ _ 24 rfl (by decide)) (far_m _ _ 24 rfl (by decide))
  rw [← hr]
  generalize band .i64 n 65535 = m
  have hl := slotB_len m r
  have hp := slotB_pos m r
  refine sat_b (slot_eq (by decide) _ _) (sat_b (read_disk (by decide) (by simp) (by simp only; omega) (by simp) (by simp only; omega)) ?_)
  have hrd : readS ⟨[], slotB m r⟩ = (r, true) := by
    unfold readS whichS
    simp only [openS_nil, openS_slot, hrec]
  rw [hrd]
  refine sat_t rfl ?_
  unfold hocketlaw13_DiskPrefix.J1
  refine sat_f (by rw [hr]; simp) ?_
  refine sat_loop (fun v : List UInt8 × Int => ((slotB m r).length - v.2).toNat) (fun v => 0 ≤ v.2 ∧ v.1 = slotB m r) ?_ 1000 _ ⟨by simp, rfl⟩ (by simp only; omega)
  rintro ⟨s, i⟩ ⟨h0, e⟩ ag hag
  simp only at h0 e
  subst e
  show Sat (hocketlaw13_DiskPrefix.B1 1000 _ ag (slotB m r) i) _
  unfold hocketlaw13_DiskPrefix.B1
  refine sat_if (fun c1 => ?_) (fun _ => ?_)
  · obtain ⟨k, rfl⟩ : ∃ k : Nat, i = k := ⟨i.toNat, by omega⟩
    refine sat_b (take_cut (by omega)) (sat_b (read_disk (by decide) (by simp only [List.length_take]; omega) (by simp) (by simp only [List.length_take]; omega) (by simp)) ?_)
    rw [read_A_none (openS_take _ _ (by omega))]
    refine sat_f (by simp) ?_
    rw [w64_id (by omega)]
    exact hag _ ⟨by simp only; omega, rfl⟩ (by simp only; omega)
  · unfold hocketlaw13_DiskPrefix.J2
    refine sat_b (app_eq (by simp; omega)) ?_
    simp only [List.nil_append]
    have e8 : w64 (8 * ((slotB m r).length : Int)) = 8 * ((slotB m r).length : Int) := w64_id (by omega)
    rw [e8]
    refine sat_b (rem_eq (by omega)) ?_
    have hb : band .i64 at_ 65535 = at_ % 65536 := band_m at_ 65535 16 rfl (by decide)
    have ht := tmod_nn (x := band .i64 at_ 65535) (y := 8 * ((slotB m r).length : Int)) (by rw [hb]; omega) (by omega)
    generalize (band .i64 at_ 65535).tmod (8 * ((slotB m r).length : Int)) = t at ht ⊢
    have e9 : w64 (Int.tdiv t 8) = t / 8 := by rw [Int.tdiv_eq_ediv_of_nonneg ht.1]; exact w64_id (by omega)
    rw [e9]
    have hk : (t / 8).toNat < (slotB m r).length := by omega
    refine sat_b (ix_get (by omega) hk) (sat_b (ix_get (by omega) hk) ?_)
    have h7 : band .i64 t 7 = t % 8 := band_m t 7 3 rfl (by decide)
    rw [h7]
    refine sat_b (read_disk (by decide) (by simp only [List.length_set]; omega) (by simp) (by simp only [List.length_set]; omega) (by simp)) ?_
    rw [read_A_none (openS_turned _ _ hk (bit_ne _ _ (by omega)))]
    refine sat_b (app_eq (by simp; omega)) ?_
    simp only [List.nil_append]
    refine sat_b (app_eq (by simp; omega)) (sat_b (read_disk (by decide) (by simp; omega) (by simp) (by simp; omega) (by simp)) ?_)
    rw [read_A_none (openS_more _ _ (by simp))]
    exact sat_f (by simp) (sat_f (by simp) (sat_b awake13 (sat_r trivial)))
theorem own13 {R : Unit → Prop} {d e : api_Disk} {was : List UInt8} (hA : e.A.length ≤ 40) (hB : e.B.length ≤ 40) (hw : was = e.A ++ [124] ++ e.B) (hr : (readS e).2 = true ∧ (readS e).1.Inc = 2) (hdA : d.A.length ≤ 40) (hdB : d.B.length ≤ 40) (hR : R ()) :
    Sat (hocketlaw13_DiskOwn.L2 1000 d (fun v => hocketlaw13_DiskOwn.J1 1000 d e was v) 1000 (0, d.A)) R := by
  refine sat_loop (fun v : Int × List UInt8 => (d.A.length - v.1).toNat) (fun v => 0 ≤ v.1 ∧ v.2.length = d.A.length) ?_ 1000 _ ⟨by simp, rfl⟩ (by simp only; omega)
  rintro ⟨i, s⟩ ⟨h0, hl⟩ ag hag
  simp only at h0 hl
  show Sat (hocketlaw13_DiskOwn.B2 1000 d _ ag i s) R
  unfold hocketlaw13_DiskOwn.B2
  refine sat_if (fun c1 => ?_) (fun _ => ?_)
  · refine sat_b (ix_get h0 (by omega)) (sat_b (ix_get h0 (by omega)) ?_)
    rw [w64_id (by omega)]
    exact hag _ ⟨by simp only; omega, by simp only [List.length_set]; exact hl⟩ (by simp only; omega)
  · unfold hocketlaw13_DiskOwn.J1
    refine sat_loop (fun v : Int × List UInt8 => (d.B.length - v.1).toNat) (fun v => 0 ≤ v.1 ∧ v.2.length = d.B.length) ?_ 1000 _ ⟨by simp, rfl⟩ (by simp only; omega)
    rintro ⟨i, s⟩ ⟨h0, hl⟩ ag hag
    simp only at h0 hl
    show Sat (hocketlaw13_DiskOwn.B1 1000 d _ ag i s) R
    unfold hocketlaw13_DiskOwn.B1
    refine sat_if (fun c1 => ?_) (fun _ => ?_)
    · refine sat_b (ix_get h0 (by omega)) (sat_b (ix_get h0 (by omega)) ?_)
      rw [w64_id (by omega)]
      exact hag _ ⟨by simp only; omega, by simp only [List.length_set]; exact hl⟩ (by simp only; omega)
    · unfold hocketlaw13_DiskOwn.J2
      refine sat_b (read_disk (by decide) (by omega) (by omega) (by omega) (by omega)) (sat_b (app_eq (by simp; omega)) (sat_b (app_eq (by simp; omega)) ?_))
      exact sat_t hw.symm (sat_t hr.1 (sat_t hr.2 (sat_b awake13 (sat_r hR))))
theorem hocketlaw13_DiskOwn.pure (a b cut : Int) {o0 o1 o2 : Prop} (_ : o0) (_ : o1) (_ : o2) : ∃ K r, hocketlaw13_DiskOwn.f K a b cut = some r := by
  refine ⟨1000, sat_pure ?_⟩
  unfold hocketlaw13_DiskOwn.f
  obtain ⟨r1, hr1⟩ : ∃ r : api_Record, r = ⟨1, band .i64 a 65535, 0⟩ := ⟨_, rfl⟩
  obtain ⟨r2, hr2⟩ : ∃ r : api_Record, r = ⟨2, band .i64 b 65535, 0⟩ := ⟨_, rfl⟩
  have f1 : rec40 r1 = r1 := by rw [hr1]; exact rec40_far (far_s (by simp only; omega)) (far_m _ _ 16 rfl (by decide)) (far_s (by simp only; omega))
  have f2 : rec40 r2 = r2 := by rw [hr2]; exact rec40_far (far_s (by simp only; omega)) (far_m _ _ 16 rfl (by decide)) (far_s (by simp only; omega))
  rw [← hr1, ← hr2]
  have w1 := wr0.write (r := r1) (by omega) (by omega) f1
  have w2 := w1.write (r := r2) (by omega) (by omega) f2
  have hd := w2.read
  have l1 := w1.1
  have l2 := w1.2.1
  have l3 := w2.1
  have l4 := w2.2.1
  refine sat_b (write_disk (by decide) (by simp) (by simp) (by simp) (by simp) _ _) ?_
  show Sat (Option.bind (disk_Write.f 1000 (writeS nodisk r1 (-1)) r2 (-1)) _) _
  refine sat_b (write_disk (by decide) (by omega) (by omega) (by omega) (by omega) _ _) (sat_b (app_eq (by simp; omega)) (sat_b (app_eq (by simp; omega)) (sat_b (write_disk (by decide) (by omega) (by omega) (by omega) (by omega) _ _) ?_)))
  have hl := writeS_len (r := (⟨3, 0, 0⟩ : api_Record)) (c := band .i64 cut 31) l3 l4 (Nat.le_refl _)
  exact own13 l3 l4 rfl (by rw [hd]; exact ⟨rfl, by rw [hr2]⟩) hl.1 hl.2 trivial
end Go.Gp
