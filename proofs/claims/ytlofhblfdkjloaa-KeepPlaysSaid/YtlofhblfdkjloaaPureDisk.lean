/- What the statements say, of the plain functions. -/
import Derived.Test.YtlofhblfdkjloaaDefs
import Derived.Test.YtlofhblfdkjloaaLe
import Derived.Test.YtlofhblfdkjloaaGpCrc
import Derived.Test.YtlofhblfdkjloaaThPack
import Derived.Test.YtlofhblfdkjloaaThPack1
import Derived.Test.YtlofhblfdkjloaaThCrc
import Derived.Test.YtlofhblfdkjloaaThDisk
import Derived.Test.YtlofhblfdkjloaaThDisk2
/- Layer 13: two slots. -/
namespace Go.Gp
open Go
theorem awake13 : hocketlaw13_awake.f 1000 = some () := by decide +kernel
def nodisk : api_Disk := ⟨[], []⟩
theorem which_nodisk : whichS nodisk = none := by unfold whichS nodisk; rw [openS_nil]
theorem far_m (x m : Int) (k : Nat) (hm : m = 2 ^ k - 1) (hk : k < 40) : far (band .i64 x m) := by
  rw [band_m x m k hm (by omega)]
  have hp : (0 : Int) < 2 ^ k := Int.pow_pos (by decide)
  have h1 := Int.emod_nonneg x (Int.ne_of_gt hp)
  have h2 := Int.emod_lt_of_pos x hp
  have h3 : (2 : Int) ^ k ≤ 2 ^ 40 := by
    have : (2 : Nat) ^ k ≤ 2 ^ 40 := Nat.pow_le_pow_right (by decide) (by omega)
    exact_mod_cast this
  exact ⟨h1, by omega⟩
theorem far_s {n : Int} (h : 0 ≤ n ∧ n ≤ 1000) : far n := ⟨h.1, by omega⟩
section
variable {R : Unit → Prop}
/-- So many whole writes came ahead: what is read is the last. -/
def Wr (i : Int) (d : api_Disk) (x : api_Record) : Prop :=
  d.A.length ≤ 40 ∧ d.B.length ≤ 40 ∧ ((i = 0 ∧ d = nodisk ∧ x = norec) ∨ (0 < i ∧ whichS d = some (i.toNat, x, decide (i % 2 = 0))))
theorem Wr.read {i : Int} {d : api_Disk} {x : api_Record} (h : Wr i d x) : readS d = (x, decide (0 < i)) := by
  obtain ⟨_, _, ⟨h1, rfl, rfl⟩ | ⟨h1, h2⟩⟩ := h
  · unfold readS
    rw [which_nodisk, decide_eq_false (by omega)]
  · unfold readS
    rw [h2, decide_eq_true h1]
theorem Wr.write {i : Int} {d : api_Disk} {x r : api_Record} (h : Wr i d x) (h0 : 0 ≤ i) (hi : i ≤ 1000) (hr : rec40 r = r) : Wr (i + 1) (writeS d r (-1)) r := by
  obtain ⟨hA, hB, hh⟩ := h
  have hl := writeS_len (r := r) (c := -1) hA hB (Nat.le_refl _)
  refine ⟨hl.1, hl.2, .inr ⟨by omega, ?_⟩⟩
  rcases hh with ⟨rfl, rfl, rfl⟩ | ⟨h1, h2⟩
  · rw [write_first which_nodisk (.inl (by omega)), hr]; rfl
  · rw [write_whole h2 (by omega) (.inl (by omega)), hr, show (i + 1).toNat = i.toNat + 1 by omega]
    congr 3
    by_cases he : i % 2 = 0
    · rw [decide_eq_true he, decide_eq_false (by omega)]; rfl
    · rw [decide_eq_false he, decide_eq_true (by omega)]; rfl
/-- Which of the slots turns. -/
theorem Wr.turn {i : Int} {d : api_Disk} {x r : api_Record} (h : Wr i d x) (h0 : 0 ≤ i) (hi : i ≤ 1000) :
    (i % 2 = 1 ∧ (writeS d r (-1)).A = d.A ∧ (writeS d r (-1)).B = slotW d r ∧ slotW d r ≠ d.B) ∨ (i % 2 = 0 ∧ (writeS d r (-1)).B = d.B ∧ (writeS d r (-1)).A = slotW d r ∧ slotW d r ≠ d.A) := by
  have hc : cutS (-1) (slotW d r) = slotW d r := by unfold cutS; rw [if_neg (by omega)]
  obtain ⟨hA, hB, hh⟩ := h
  rcases hh with ⟨rfl, rfl, rfl⟩ | ⟨h1, h2⟩
  · refine .inr ⟨rfl, ?_, ?_, ?_⟩
    · unfold writeS; rw [which_nodisk]
    · unfold writeS; rw [which_nodisk]; exact hc
    · unfold slotW
      rw [which_nodisk]
      intro h
      have h8 := slotB_pos 1 r
      have := congrArg List.length h
      simp only [nodisk, List.length_nil] at this
      omega
  · by_cases he : i % 2 = 0
    · rw [decide_eq_true he] at h2
      refine .inr ⟨he, ?_, ?_, ?_⟩
      · unfold writeS; rw [h2]
      · unfold writeS; rw [h2]; exact hc
      · intro h
        have e : slotW d r = slotB ((i.toNat + 1 : Nat) : Int) r := by unfold slotW; rw [h2]
        have ho := openW (n := i.toNat) (r := r) (by omega)
        rw [← e, h] at ho
        have := (whichS_B h2).2 _ ho
        simp only at this
        omega
    · rw [decide_eq_false he] at h2
      refine .inl ⟨by omega, ?_, ?_, ?_⟩
      · unfold writeS; rw [h2]
      · unfold writeS; rw [h2]; exact hc
      · intro h
        have e : slotW d r = slotB ((i.toNat + 1 : Nat) : Int) r := by unfold slotW; rw [h2]
        have ho := openW (n := i.toNat) (r := r) (by omega)
        rw [← e, h] at ho
        have := (whichS_A h2).2 _ ho
        simp only at this
        omega
theorem slotW_pos (d : api_Disk) (r : api_Record) : 8 ≤ (slotW d r).length := by
  unfold slotW
  split <;> exact slotB_pos _ _
theorem Wr.torn {i : Int} {d : api_Disk} {x r : api_Record} (h : Wr i d x) {c : Int} (hc : 0 ≤ c ∧ c < ((slotW d r).length : Int)) : readS (writeS d r c) = readS d := by
  unfold readS
  rw [write_torn hc]
theorem rec_list (a b : api_Record) : [a.Inc, a.Prom, a.Inst] = [b.Inc, b.Prom, b.Inst] ↔ a = b := by
  constructor
  · intro h
    simp only [List.cons.injEq, and_true] at h
    obtain ⟨h1, h2, h3⟩ := h
    cases a; cases b
    simp only at h1 h2 h3
    rw [h1, h2, h3]
  · rintro rfl; rfl
theorem wr0 : Wr 0 nodisk norec := ⟨by simp [nodisk], by simp [nodisk], .inl ⟨rfl, rfl, rfl⟩⟩
end
theorem hocketlaw13_DiskTurns.pure (nums : List Int) (h1 : nums.length ≤ 140737488351232 ∧ ∀ x ∈ nums, i64ok x) : ∃ K r, hocketlaw13_DiskTurns.f K nums = some r := by
  refine ⟨1000, sat_pure ?_⟩
  unfold hocketlaw13_DiskTurns.f
  refine sat_loop (fun v : Int × api_Disk => (20 - v.1).toNat) (fun v => 0 ≤ v.1 ∧ v.1 ≤ 20 ∧ ∃ x, Wr v.1 v.2 x) ?_ 1000 _ ⟨by simp, by simp, norec, wr0⟩ (by simp)
  rintro ⟨i, d⟩ ⟨h0, h20, x, hw⟩ ag hag
  simp only at h0 h20 hw
  have out : Sat (hocketlaw13_DiskTurns.J2 1000 nums i d ag (fun v => hocketlaw13_DiskTurns.J1 1000) false) (fun _ => True) := by
    unfold hocketlaw13_DiskTurns.J2 hocketlaw13_DiskTurns.J1
    exact sat_f (by simp) (sat_b awake13 (sat_r trivial))
  show Sat (hocketlaw13_DiskTurns.B1 1000 nums _ ag i d) _
  unfold hocketlaw13_DiskTurns.B1
  refine sat_if (fun c1 => ?_) (fun _ => out)
  unfold hocketlaw13_DiskTurns.J2
  refine sat_if (fun c2 => ?_) (fun _ => sat_b awake13 (sat_r trivial))
  have hi : i < 20 := of_decide_eq_true c2
  obtain ⟨t, ht⟩ : ∃ t, ix nums i = some t := ⟨_, ix_get h0 (by omega)⟩
  have e1 : w64 (i + 1) = i + 1 := w64_id (by omega)
  rw [e1]
  refine sat_b ht (sat_b ht ?_)
  obtain ⟨r, hr⟩ : ∃ r : api_Record, r = ⟨i + 1, band .i64 t 65535, band .i64 (shr .i64 t 16) 255⟩ := ⟨_, rfl⟩
  have hrec : rec40 r = r := by
    rw [hr]
    exact rec40_far (far_s (by simp only; omega)) (far_m _ _ 16 rfl (by decide)) (far_m _ _ 8 rfl (by decide))
  have hA := hw.1
  have hB := hw.2.1
  have hl := writeS_len (r := r) (c := -1) hA hB (Nat.le_refl _)
  have hw2 := hw.write h0 (by omega) hrec
  rw [← hr]
  refine sat_b (write_disk (by decide) (by omega) (by omega) (by omega) (by omega) _ _) (sat_b (read_disk (by decide) (by omega) (by omega) (by omega) (by omega)) ?_)
  rw [hw2.read]
  have j4 : ∀ b : Bool, b = false → Sat (hocketlaw13_DiskTurns.J4 1000 ag i (writeS d r (-1)) b) (fun _ => True) := fun b hb => by
    unfold hocketlaw13_DiskTurns.J4
    rw [e1]
    exact sat_f (by simp [hb]) (hag _ ⟨by simp only; omega, by simp only; omega, _, hw2⟩ (by simp only; omega))
  have hp := slotW_pos d r
  have htl := writeS_len (r := r) (c := 4) hA hB (Nat.le_refl _)
  have j3 : ∀ b : Bool, b = false → Sat (hocketlaw13_DiskTurns.J3 1000 d i t t ag (writeS d r (-1)) b) (fun _ => True) := fun b hb => by
    unfold hocketlaw13_DiskTurns.J3
    rw [e1, ← hr]
    refine sat_f (by simp [hb]) (sat_b (write_disk (by decide) (by omega) (by omega) (by omega) (by omega) _ _) (sat_b (read_disk (by decide) (by omega) (by omega) (by omega) (by omega)) (sat_b (read_disk (by decide) (by omega) (by omega) (by omega) (by omega)) ?_)))
    rw [hw.torn (r := r) (c := 4) ⟨by omega, by omega⟩]
    exact sat_t rfl (j4 _ (by simp))
  have b1 : band .i64 i 1 = i % 2 := band_m i 1 1 rfl (by decide)
  rw [b1]
  have last : Sat (if (r, decide (0 < i + 1)).2 = true then hocketlaw13_DiskTurns.J3 1000 d i t t ag (writeS d r (-1)) (!([(r, decide (0 < i + 1)).1.Inc, (r, decide (0 < i + 1)).1.Prom, (r, decide (0 < i + 1)).1.Inst] == [i + 1, band .i64 t 65535, band .i64 (shr .i64 t 16) 255])) else hocketlaw13_DiskTurns.J3 1000 d i t t ag (writeS d r (-1)) true) (fun _ => True) := by
    refine sat_t (decide_eq_true (by omega)) (j3 _ ?_)
    rw [hr]; simp
  rcases hw.turn (r := r) h0 (by omega) with ⟨hm, ha, hb, hne⟩ | ⟨hm, hb, ha, hne⟩
  · have ea : ((writeS d r (-1)).A == d.A) = true := by rw [ha]; simp
    have eb : ((writeS d r (-1)).B == d.B) = false := by rw [hb]; simp [hne]
    rw [ea, eb, hm]
    exact sat_f (by simp) (sat_t (by decide) last)
  · have ea : ((writeS d r (-1)).A == d.A) = false := by rw [ha]; simp [hne]
    have eb : ((writeS d r (-1)).B == d.B) = true := by rw [hb]; simp
    rw [ea, eb, hm]
    exact sat_f (by simp) (sat_t (by decide) last)
theorem hocketlaw13_DiskPlays.pure (raw : api_Disk) (empty : Bool) (nums cuts : List Int) (_h0 : ok_api_Disk raw) (h2 : nums.length ≤ 140737488351232 ∧ ∀ x ∈ nums, i64ok x) (h3 : cuts.length ≤ 140737488351232 ∧ ∀ x ∈ cuts, i64ok x) : ∃ K r, hocketlaw13_DiskPlays.f K raw empty nums cuts = some r := by
  refine ⟨1000, sat_pure ?_⟩
  have hl1 := _h0.1.1
  have hl2 := _h0.2.1
  unfold hocketlaw13_DiskPlays.f
  refine sat_if (fun _ => sat_b awake13 (sat_r trivial)) (fun hn => ?_)
  rw [w64_id (by omega)] at hn
  have key : ∀ d : api_Disk, d.A.length ≤ 200 → d.B.length ≤ 200 → Sat (hocketlaw13_DiskPlays.J1 1000 nums cuts d) (fun _ => True) := fun d hA hB => by
    unfold hocketlaw13_DiskPlays.J1
    refine sat_loop (fun v : Int × api_Disk × api_Disk => (20 - v.1).toNat) (fun v => 0 ≤ v.1 ∧ v.1 ≤ 20 ∧ v.2.1 = v.2.2 ∧ v.2.1.A.length ≤ 200 ∧ v.2.1.B.length ≤ 200) ?_ 1000 _ ⟨by simp, by simp, rfl, hA, hB⟩ (by simp)
    rintro ⟨i, d, w⟩ ⟨h0, h20, e, hA, hB⟩ ag hag
    simp only at h0 h20 e hA hB
    subst e
    have out : Sat (hocketlaw13_DiskPlays.J2 1000 d d) (fun _ => True) := by
      unfold hocketlaw13_DiskPlays.J2
      exact sat_b (read_disk (by decide) (by omega) (by omega) (by omega) (by omega)) (sat_b (rread_disk (by decide) (by omega) (by omega) (by omega) (by omega)) (sat_t rfl (sat_t rfl (sat_b awake13 (sat_r trivial)))))
    have out3 : Sat (hocketlaw13_DiskPlays.J3 1000 nums i cuts d d ag (fun v => hocketlaw13_DiskPlays.J2 1000 v.1 v.2) false) (fun _ => True) := by
      unfold hocketlaw13_DiskPlays.J3
      exact sat_f (by simp) out
    show Sat (hocketlaw13_DiskPlays.B1 1000 nums cuts _ ag i d d) _
    unfold hocketlaw13_DiskPlays.B1
    refine sat_if (fun c1 => sat_if (fun c2 => ?_) (fun _ => out3)) (fun _ => out3)
    unfold hocketlaw13_DiskPlays.J3
    refine sat_if (fun c3 => ?_) (fun _ => out)
    have hi : i < 20 := of_decide_eq_true c3
    obtain ⟨t, ht⟩ : ∃ t, ix nums i = some t := ⟨_, ix_get h0 (by omega)⟩
    obtain ⟨c, hc⟩ : ∃ c, ix cuts i = some c := ⟨_, ix_get h0 (by omega)⟩
    have j4 : ∀ cut : Int, Sat (hocketlaw13_DiskPlays.J4 1000 d d nums i t t t ag cut) (fun _ => True) := fun cut => by
      unfold hocketlaw13_DiskPlays.J4
      refine sat_b (read_disk (by decide) (by omega) (by omega) (by omega) (by omega)) (sat_b (rread_disk (by decide) (by omega) (by omega) (by omega) (by omega)) (sat_t rfl (sat_t rfl (sat_b ht (sat_b ht (sat_b (slot_eq (by decide) _ _) (sat_b (rslot_eq (by decide) _ _) ?_)))))))
      unfold hocketlaw13_DiskPlays.J5
      have hl := writeS_len (r := ⟨shr .i64 t 3, t, shr .i64 t (wu64 i)⟩) (c := cut) hA hB (by decide)
      refine sat_f (by simp) (sat_b (write_disk (by decide) (by omega) (by omega) (by omega) (by omega) _ _) (sat_b (rwrite_disk (by decide) (by omega) (by omega) (by omega) (by omega) _ _) ?_))
      unfold hocketlaw13_DiskPlays.J6 hocketref11_SameDisk.f
      rw [if_pos rfl]
      refine sat_b rfl (sat_t (by simp) ?_)
      rw [w64_id (by omega)]
      exact hag _ ⟨by simp only; omega, by simp only; omega, rfl, hl.1, hl.2⟩ (by simp only; omega)
    exact sat_b ht (sat_b ht (sat_b ht (sat_b hc (sat_b hc (sat_if (fun _ => sat_b hc (j4 _)) (fun _ => j4 _))))))
  exact sat_if (fun _ => key _ (by simp) (by simp)) (fun _ => key _ (by omega) (by omega))
theorem hocketlaw13_DiskOldOrNew.pure (nums : List Int) (n cut : Int) (h1 : nums.length ≤ 140737488351232 ∧ ∀ x ∈ nums, i64ok x) {o1 o2 : Prop} (_ : o1) (_ : o2) : ∃ K r, hocketlaw13_DiskOldOrNew.f K nums n cut = some r := by
  refine ⟨1000, sat_pure ?_⟩
  unfold hocketlaw13_DiskOldOrNew.f
  refine sat_loop (fun v : Int × api_Disk × api_Record => (10 - v.1).toNat) (fun v => 0 ≤ v.1 ∧ v.1 ≤ 10 ∧ v.1 ≤ nums.length ∧ Wr v.1 v.2.1 v.2.2) ?_ 1000 _ ⟨by simp, by simp, by simp, wr0⟩ (by simp)
  rintro ⟨i, d, x⟩ ⟨h0, h10, hln, hw⟩ ag hag
  simp only at h0 h10 hln hw
  have hA := hw.1
  have hB := hw.2.1
  have b63 : band .i64 cut 63 = cut % 64 := band_m cut 63 6 rfl (by decide)
  have out : (nums.length ≤ i ∨ i = 10) → Sat (hocketlaw13_DiskOldOrNew.J1 1000 n cut nums d x) (fun _ => True) := fun hend => by
    unfold hocketlaw13_DiskOldOrNew.J1
    obtain ⟨r, hr⟩ : ∃ r : api_Record, r = ⟨99, band .i64 n 16777215, band .i64 (shr .i64 n 24) 255⟩ := ⟨_, rfl⟩
    have hrec : rec40 r = r := by
      rw [hr]
      exact rec40_far (far_s (by simp only; omega)) (far_m _ _ 24 rfl (by decide)) (far_m _ _ 8 rfl (by decide))
    rw [← hr]
    refine sat_b (write_disk (by decide) (by omega) (by omega) (by omega) (by omega) _ _) ?_
    have hl := writeS_len (r := r) (c := cut % 64) hA hB (Nat.le_refl _)
    have j2 : ∀ long : Int, long = (slotW d r).length → Sat (hocketlaw13_DiskOldOrNew.J2 1000 d n cut nums x long) (fun _ => True) := fun long hlong => by
      unfold hocketlaw13_DiskOldOrNew.J2
      rw [← hr, b63]
      refine sat_b (write_disk (by decide) (by omega) (by omega) (by omega) (by omega) _ _) (sat_b (read_disk (by decide) (by omega) (by omega) (by omega) (by omega)) (sat_if (fun hge => ?_) (fun hlt => ?_)))
      · have hrd : readS (writeS d r (cut % 64)) = (r, true) := by
          unfold readS
          obtain ⟨_, _, ⟨_, rfl, rfl⟩ | ⟨hi, h2⟩⟩ := hw
          · rw [write_first which_nodisk (.inr (by omega)), hrec]
          · rw [write_whole h2 (by omega) (.inr (by omega)), hrec]
        rw [hrd]
        exact sat_t rfl (sat_t (by rw [hr]) (sat_b awake13 (by unfold hocketlaw13_DiskOldOrNew.J3; exact sat_t rfl (sat_r trivial))))
      · rw [hw.torn (r := r) ⟨by omega, by omega⟩, hw.read]
        refine sat_if (fun hz => ?_) (fun hnz => ?_)
        · have hi : i = 0 := by omega
          obtain ⟨_, _, ⟨_, rfl, rfl⟩ | ⟨hi2, h2⟩⟩ := hw
          · refine sat_f (by simp [hi]) (sat_t rfl (sat_b awake13 ?_))
            unfold hocketlaw13_DiskOldOrNew.J4
            exact sat_t rfl (sat_r trivial)
          · omega
        · have hi : 0 < i := by omega
          exact sat_t (decide_eq_true hi) (sat_t rfl (sat_b awake13 (sat_r trivial)))
    rcases hw.turn (r := r) h0 (by omega) with ⟨hm, ha, hb, hne⟩ | ⟨hm, hb, ha, hne⟩
    · exact sat_t ha (j2 _ (by rw [hb]))
    · exact sat_f (by rw [ha]; exact hne) (j2 _ (by rw [ha]))
  have out5 : (nums.length ≤ i ∨ i = 10) → Sat (hocketlaw13_DiskOldOrNew.J5 1000 nums i d ag (fun v => hocketlaw13_DiskOldOrNew.J1 1000 n cut nums v.1 v.2) x false) (fun _ => True) := fun h => by
    unfold hocketlaw13_DiskOldOrNew.J5
    exact sat_f (by simp) (out h)
  show Sat (hocketlaw13_DiskOldOrNew.B1 1000 nums _ ag i d x) _
  unfold hocketlaw13_DiskOldOrNew.B1
  refine sat_if (fun c1 => ?_) (fun hge => out5 (.inl (by omega)))
  unfold hocketlaw13_DiskOldOrNew.J5
  refine sat_if (fun c2 => ?_) (fun hge => out (.inr (by simp at hge; omega)))
  have hi : i < 10 := of_decide_eq_true c2
  have e1 : w64 (i + 1) = i + 1 := w64_id (by omega)
  obtain ⟨t, ht⟩ : ∃ t, ix nums i = some t := ⟨_, ix_get h0 (by omega)⟩
  rw [e1]
  have hrec : rec40 (⟨i + 1, band .i64 t 65535, band .i64 (shr .i64 t 16) 255⟩ : api_Record) = ⟨i + 1, band .i64 t 65535, band .i64 (shr .i64 t 16) 255⟩ := rec40_far (far_s (by simp only; omega)) (far_m _ _ 16 rfl (by decide)) (far_m _ _ 8 rfl (by decide))
  refine sat_b ht (sat_b ht (sat_b (write_disk (by decide) (by omega) (by omega) (by omega) (by omega) _ _) ?_))
  exact hag _ ⟨by simp only; omega, by simp only; omega, by simp only; omega, hw.write h0 (by omega) hrec⟩ (by simp only; omega)
end Go.Gp
