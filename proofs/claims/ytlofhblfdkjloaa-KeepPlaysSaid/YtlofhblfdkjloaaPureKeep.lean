/- What the statements say, of the plain functions. -/
import Derived.Test.YtlofhblfdkjloaaDefs
import Derived.Test.YtlofhblfdkjloaaLe
import Derived.Test.YtlofhblfdkjloaaGpCrc
import Derived.Test.YtlofhblfdkjloaaThPack
import Derived.Test.YtlofhblfdkjloaaThPack1
import Derived.Test.YtlofhblfdkjloaaThCrc
import Derived.Test.YtlofhblfdkjloaaThDisk
import Derived.Test.YtlofhblfdkjloaaThDisk2
import Derived.Test.YtlofhblfdkjloaaPureDisk
/- Layer 21: what outlives. -/
namespace Go.Gp
open Go
theorem awake21 : hocketlaw21_awake.f 1000 = some () := by decide +kernel
/-- How long what a write writes is, as the keep reckons it. -/
def longS (d : api_Disk) (r : api_Record) : Int := if (writeS d r (-1)).A = d.A then ((writeS d r (-1)).B.length : Int) else ((writeS d r (-1)).A.length : Int)
def putS (d : api_Disk) (cut : Int) (dead : Bool) (r : api_Record) : Bool × api_Disk × Bool :=
  if dead = true then (false, d, true) else if cut = -1 then (true, writeS d r (-1), false) else (false, writeS d r (mn cut (longS d r - 1)), true)
theorem longS_le (d : api_Disk) (r : api_Record) (hA : d.A.length ≤ 200) (hB : d.B.length ≤ 200) : 0 ≤ longS d r ∧ longS d r ≤ 200 := by
  have hl := writeS_len (r := r) (c := -1) hA hB (by decide)
  unfold longS
  split <;> omega
theorem put_eq {d : api_Disk} (hA : d.A.length ≤ 200) (hB : d.B.length ≤ 200) (cut : Int) (dead : Bool) (r : api_Record) :
    keep_Keep_Put.f 1000 d.A d.B cut dead r = some ((putS d cut dead r).1, (putS d cut dead r).2.1.A, (putS d cut dead r).2.1.B, cut, (putS d cut dead r).2.2) := by
  unfold keep_Keep_Put.f putS
  have hl := writeS_len (r := r) (c := -1) hA hB (by decide)
  have hw : ∀ c, disk_Write.f 1000 (⟨d.A, d.B⟩ : api_Disk) r c = some (writeS d r c) := fun c => write_disk (by decide) (by simp only; omega) (by simp only; omega) (by simp only; omega) (by simp only; omega) r c
  cases dead with
  | true => rfl
  | false =>
    simp only [Bool.false_eq_true, if_false]
    by_cases hc : cut = -1
    · rw [if_pos hc, if_pos hc, hw]
      rfl
    · rw [if_neg hc, if_neg hc, hw]
      simp only [Option.bind_some]
      unfold keep_Keep_Put.J1
      rw [equal_u8 (by omega) (by omega)]
      simp only [Option.bind_some]
      have hj : ∀ n : Int, 0 ≤ n → n ≤ 200 → n = longS d r → keep_Keep_Put.J2 1000 d.A d.B r cut n = some (false, (writeS d r (mn cut (longS d r - 1))).A, (writeS d r (mn cut (longS d r - 1))).B, cut, true) := fun n h0 h1 hn => by
        unfold keep_Keep_Put.J2
        rw [hw, w64_id (by omega), hn]
        rfl
      by_cases ha : (writeS d r (-1)).A = d.A
      · rw [if_pos (decide_eq_true ha)]
        exact hj _ (by omega) (by omega) (by unfold longS; rw [if_pos ha])
      · rw [if_neg (by simp [ha])]
        exact hj _ (by omega) (by omega) (by unfold longS; rw [if_neg ha])
theorem krec_eq {d : api_Disk} (hA : d.A.length ≤ 200) (hB : d.B.length ≤ 200) (cut : Int) (dead : Bool) : keep_Keep_Record.f 1000 d.A d.B cut dead = some ((readS d).1, (readS d).2, d.A, d.B, cut, dead) := by
  unfold keep_Keep_Record.f
  rw [read_disk (d := ⟨d.A, d.B⟩) (by decide) (by simp only; omega) (by simp only; omega) (by simp only; omega) (by simp only; omega)]
  rfl
theorem kdisk_eq {d : api_Disk} (hA : d.A.length ≤ 200) (hB : d.B.length ≤ 200) (cut : Int) (dead : Bool) : keep_Keep_Disk.f d.A d.B cut dead = some (d, d.A, d.B, cut, dead) := by
  unfold keep_Keep_Disk.f
  rw [clone_u8 (by omega), clone_u8 (by omega)]
  rfl
theorem knew_eq {d : api_Disk} (hA : d.A.length ≤ 200) (hB : d.B.length ≤ 200) : keep_New.f d = some (d.A, d.B, -1, false) := by
  unfold keep_New.f
  rw [clone_u8 (by omega), clone_u8 (by omega)]
  rfl
theorem Wr.long {i : Int} {d : api_Disk} {x r : api_Record} (h : Wr i d x) (h0 : 0 ≤ i) (hi : i ≤ 1000) : longS d r = ((slotW d r).length : Int) := by
  unfold longS
  rcases h.turn (r := r) h0 hi with ⟨_, ha, hb, hne⟩ | ⟨_, hb, ha, hne⟩
  · rw [if_pos ha, hb]
  · rw [if_neg (by rw [ha]; exact hne), ha]
theorem hocketlaw21_KeepCut.pure (a cut b : Int) {o0 o1 o2 : Prop} (_ : o0) (_ : o1) (_ : o2) : ∃ K r, hocketlaw21_KeepCut.f K a cut b = some r := by
  refine ⟨1000, sat_pure ?_⟩
  unfold hocketlaw21_KeepCut.f
  obtain ⟨r1, hr1⟩ : ∃ r : api_Record, r = ⟨1, band .i64 a 65535, 0⟩ := ⟨_, rfl⟩
  obtain ⟨r2, hr2⟩ : ∃ r : api_Record, r = ⟨2, band .i64 b 65535, 0⟩ := ⟨_, rfl⟩
  obtain ⟨r3, hr3⟩ : ∃ r : api_Record, r = ⟨2, band .i64 b 65535, 3⟩ := ⟨_, rfl⟩
  have f1 : rec40 r1 = r1 := by rw [hr1]; exact rec40_far (far_s (by simp only; omega)) (far_m _ _ 16 rfl (by decide)) (far_s (by simp only; omega))
  have f3 : rec40 r3 = r3 := by rw [hr3]; exact rec40_far (far_s (by simp only; omega)) (far_m _ _ 16 rfl (by decide)) (far_s (by simp only; omega))
  have w1 := wr0.write (r := r1) (by omega) (by omega) f1
  have l1 := w1.1
  have l2 := w1.2.1
  refine sat_b (knew_eq (by simp) (by simp)) ?_
  rw [← hr1, ← hr2]
  refine sat_b (put_eq (d := nodisk) (by simp [nodisk]) (by simp [nodisk]) (-1) false r1) ?_
  have p1 : putS nodisk (-1) false r1 = (true, writeS nodisk r1 (-1), false) := rfl
  rw [p1]
  generalize writeS nodisk r1 (-1) = d1 at *
  refine sat_t rfl (sat_b rfl (sat_b rfl (sat_f (by simp) ?_)))
  have hc0 : 0 ≤ mx cut 0 := by rw [mx_eq]; omega
  refine sat_b (put_eq (d := d1) (by omega) (by omega) (mx cut 0) false r2) ?_
  have hlong := w1.long (r := r2) (by omega) (by omega)
  have hpos := slotW_pos d1 r2
  have hlen2 := slotW_len d1 r2
  obtain ⟨c2, hc2⟩ : ∃ c2, c2 = mn (mx cut 0) (longS d1 r2 - 1) := ⟨_, rfl⟩
  have p2 : putS d1 (mx cut 0) false r2 = (false, writeS d1 r2 c2, true) := by
    unfold putS
    rw [if_neg (by simp), if_neg (by omega), hc2]
  have hcr : 0 ≤ c2 ∧ c2 < ((slotW d1 r2).length : Int) := by rw [hc2, mn_eq, hlong]; omega
  rw [p2]
  have ll := writeS_len (r := r2) (c := c2) l1 l2 (Nat.le_refl _)
  have ht := write_torn (d := d1) (r := r2) hcr
  have hrd := w1.torn (r := r2) hcr
  rw [w1.read] at hrd
  have hw1 : whichS d1 = some (1, r1, false) := by
    obtain ⟨_, _, ⟨h, _⟩ | ⟨_, h⟩⟩ := w1
    · omega
    · exact h
  rw [hw1] at ht
  generalize writeS d1 r2 c2 = d2 at *
  refine sat_f (by simp) (sat_b rfl (sat_t rfl (sat_b (put_eq (d := d2) (by omega) (by omega) (mx cut 0) true _) ?_)))
  unfold hocketlaw21_KeepCut.J1
  refine sat_f (by simp [putS]) (sat_b (krec_eq (d := d2) (by omega) (by omega) _ _) (sat_b (kdisk_eq (d := d2) (by omega) (by omega) _ _) (sat_b (knew_eq (d := d2) (by omega) (by omega)) (sat_b rfl (sat_f (by simp) (sat_b (krec_eq (d := d2) (by omega) (by omega) _ _) ?_))))))
  rw [hrd]
  refine sat_t rfl (sat_t (by rw [hr1]) (sat_t rfl (sat_t (by rw [hr1]) ?_)))
  rw [← hr3]
  refine sat_b (put_eq (d := d2) (by omega) (by omega) (-1) false r3) ?_
  have p3 : putS d2 (-1) false r3 = (true, writeS d2 r3 (-1), false) := rfl
  rw [p3]
  have l3 := writeS_len (r := r3) (c := -1) ll.1 ll.2 (Nat.le_refl _)
  have h3 : readS (writeS d2 r3 (-1)) = (r3, true) := by
    unfold readS
    rw [write_whole ht (by omega) (.inl (by omega)), f3]
  generalize writeS d2 r3 (-1) = d3 at *
  unfold hocketlaw21_KeepCut.J2
  refine sat_f (by simp) (sat_b (krec_eq (d := d3) (by omega) (by omega) _ _) (sat_b (krec_eq (d := d2) (by omega) (by omega) _ _) ?_))
  rw [h3, hrd]
  exact sat_t rfl (sat_t (by rw [hr3]) (sat_t rfl (sat_t (by rw [hr1]) (sat_b awake21 (sat_r trivial)))))
theorem hocketlaw21_KeepTurns.pure (nums : List Int) (h1 : nums.length ≤ 140737488351232 ∧ ∀ x ∈ nums, i64ok x) : ∃ K r, hocketlaw21_KeepTurns.f K nums = some r := by
  have hn := h1.1
  refine ⟨1000, sat_pure ?_⟩
  unfold hocketlaw21_KeepTurns.f
  refine sat_b (knew_eq (by simp) (by simp)) ?_
  refine sat_loop (fun v : Int × keep_Keep => (20 - v.1).toNat) (fun v => 0 ≤ v.1 ∧ v.1 ≤ 20 ∧ v.1 ≤ nums.length ∧ v.2.cut = -1 ∧ v.2.dead = false ∧ ∃ x, Wr v.1 v.2.d x) ?_ 1000 _ ⟨by simp, by simp, by simp, rfl, rfl, norec, wr0⟩ (by simp)
  rintro ⟨i, k⟩ ⟨h0, h20, hln, hk1, hk2, x, hw⟩ ag hag
  simp only at h0 h20 hln hk1 hk2 hw
  obtain ⟨d, kc, kd⟩ := k
  simp only at hk1 hk2 hw
  subst hk1 hk2
  have hA := hw.1
  have hB := hw.2.1
  have out : (nums.length ≤ i ∨ i = 20) → Sat (hocketlaw21_KeepTurns.J1 1000 nums ⟨d, -1, false⟩) (fun _ => True) := fun hend => by
    unfold hocketlaw21_KeepTurns.J1
    refine sat_b (krec_eq (d := d) (by omega) (by omega) _ _) ?_
    rw [hw.read]
    exact sat_t (decide_eq_decide.2 (by omega)) (sat_b awake21 (sat_r trivial))
  have out2 : (nums.length ≤ i ∨ i = 20) → Sat (hocketlaw21_KeepTurns.J2 1000 nums i ⟨d, -1, false⟩ ag (fun v => hocketlaw21_KeepTurns.J1 1000 nums v) false) (fun _ => True) := fun hend => by
    unfold hocketlaw21_KeepTurns.J2
    exact sat_f (by simp) (out hend)
  show Sat (hocketlaw21_KeepTurns.B1 1000 nums _ ag i ⟨d, -1, false⟩) _
  unfold hocketlaw21_KeepTurns.B1
  refine sat_if (fun c1 => ?_) (fun hge => out2 (.inl (by omega)))
  unfold hocketlaw21_KeepTurns.J2
  refine sat_if (fun c2 => ?_) (fun hge => out (.inr (by simp at hge; omega)))
  have hi : i < 20 := of_decide_eq_true c2
  have e1 : w64 (i + 1) = i + 1 := w64_id (by omega)
  obtain ⟨t, ht⟩ : ∃ t, ix nums i = some t := ⟨_, ix_get h0 (by omega)⟩
  obtain ⟨r, hr⟩ : ∃ r : api_Record, r = ⟨i + 1, band .i64 t 16777215, band .i64 (shr .i64 t 24) 63⟩ := ⟨_, rfl⟩
  have hrec : rec40 r = r := by
    rw [hr]
    exact rec40_far (far_s (by simp only; omega)) (far_m _ _ 24 rfl (by decide)) (far_m _ _ 6 rfl (by decide))
  rw [e1]
  refine sat_b ht (sat_b ht ?_)
  rw [← hr]
  refine sat_b (put_eq (d := d) (by omega) (by omega) (-1) false r) ?_
  have p1 : putS d (-1) false r = (true, writeS d r (-1), false) := rfl
  rw [p1]
  have hw2 := hw.write h0 (by omega) hrec
  have hA2 := hw2.1
  have hB2 := hw2.2.1
  have hrd := hw2.read
  generalize writeS d r (-1) = d2 at *
  refine sat_t rfl (sat_b rfl ?_)
  unfold hocketlaw21_KeepTurns.J3
  refine sat_f (by simp) (sat_b (krec_eq (d := d2) (by omega) (by omega) _ _) (sat_b (kdisk_eq (d := d2) (by omega) (by omega) _ _) (sat_b (knew_eq (d := d2) (by omega) (by omega)) (sat_b (krec_eq (d := d2) (by omega) (by omega) _ _) ?_))))
  rw [hrd, e1]
  have j4 : ∀ b : Bool, b = false → Sat (hocketlaw21_KeepTurns.J4 1000 (d2, d2.A, d2.B, -1, false) ag i b) (fun _ => True) := fun b hb => by
    unfold hocketlaw21_KeepTurns.J4
    refine sat_f (by simp [hb]) (sat_b (kdisk_eq (d := d2) (by omega) (by omega) _ _) ?_)
    refine sat_loop (fun v : Int × List UInt8 => (d2.A.length - v.1).toNat) (fun v => 0 ≤ v.1 ∧ v.2.length = d2.A.length) ?_ 1000 _ ⟨by simp, rfl⟩ (by simp only; omega)
    rintro ⟨q, s⟩ ⟨q0, hl⟩ ag2 hag2
    simp only at q0 hl
    show Sat (hocketlaw21_KeepTurns.B2 1000 _ _ ag2 q s) _
    unfold hocketlaw21_KeepTurns.B2
    refine sat_if (fun c1 => ?_) (fun _ => ?_)
    · simp only at c1
      refine sat_b (ix_get q0 (by omega)) (sat_b (ix_get q0 (by omega)) ?_)
      rw [w64_id (by omega)]
      exact hag2 _ ⟨by simp only; omega, by simp only [List.length_set]; exact hl⟩ (by simp only; omega)
    · unfold hocketlaw21_KeepTurns.J5
      rw [e1]
      exact hag _ ⟨by simp only; omega, by simp only; omega, by simp only; omega, rfl, rfl, r, hw2⟩ (by simp only; omega)
  refine sat_t (decide_eq_true (by omega)) (sat_t (by rw [hr]) (sat_t (decide_eq_true (by omega)) (j4 _ (by rw [hr]; simp))))
theorem hocketlaw21_KeepPlays.pure (nums acts : List Int) (_h0 : nums.length ≤ 140737488351232 ∧ ∀ x ∈ nums, i64ok x) (_h1 : acts.length ≤ 140737488351232 ∧ ∀ x ∈ acts, i64ok x) : ∃ K r, hocketlaw21_KeepPlays.f K nums acts = some r := by
  refine ⟨1000, sat_pure ?_⟩
  unfold hocketlaw21_KeepPlays.f
  have main : ∀ d : api_Disk, d.A.length ≤ 200 → d.B.length ≤ 200 → Sat (hocketlaw21_KeepPlays.J1 1000 acts d) (fun _ => True) := fun d hA hB => by
    unfold hocketlaw21_KeepPlays.J1
    refine sat_b (knew_eq (by omega) (by omega)) ?_
    refine sat_loop (fun v : Int × Bool × Int × api_Disk × keep_Keep => (30 - v.2.2.1).toNat) (fun v => (v.1 = -1 ∨ 0 ≤ v.1) ∧ 0 ≤ v.2.2.1 ∧ v.2.2.1 ≤ 30 ∧ v.2.2.2.1.A.length ≤ 200 ∧ v.2.2.2.1.B.length ≤ 200 ∧ v.2.2.2.2 = ⟨v.2.2.2.1, v.1, v.2.1⟩) ?_ 1000 _ ⟨.inl rfl, by simp, by simp, hA, hB, rfl⟩ (by simp)
    rintro ⟨cut, dead, i, d, k⟩ ⟨hc, h0, h30, hA, hB, e⟩ ag hag
    simp only at hc h0 h30 hA hB e
    subst e
    have out : Sat (hocketlaw21_KeepPlays.J2 1000 d ⟨d, cut, dead⟩) (fun _ => True) := by
      unfold hocketlaw21_KeepPlays.J2
      exact sat_b (kdisk_eq (d := d) (by omega) (by omega) _ _) (sat_b (read_disk (by decide) (by simp only; omega) (by simp only; omega) (by simp only; omega) (by simp only; omega)) (sat_b (rread_disk (by decide) (by omega) (by omega) (by omega) (by omega)) (sat_t rfl (sat_b awake21 (sat_r trivial)))))
    have out3 : Sat (hocketlaw21_KeepPlays.J3 1000 acts i ⟨d, cut, dead⟩ ag dead d cut (fun v => hocketlaw21_KeepPlays.J2 1000 v.1 v.2) false) (fun _ => True) := by
      unfold hocketlaw21_KeepPlays.J3
      exact sat_f (by simp) out
    show Sat (hocketlaw21_KeepPlays.B1 1000 acts _ ag cut dead i d ⟨d, cut, dead⟩) _
    unfold hocketlaw21_KeepPlays.B1
    refine sat_if (fun c1 => ?_) (fun _ => out3)
    unfold hocketlaw21_KeepPlays.J3
    refine sat_if (fun c2 => ?_) (fun _ => out)
    have hi : i < 30 := of_decide_eq_true c2
    have e1 : w64 (i + 1) = i + 1 := w64_id (by omega)
    obtain ⟨t, ht⟩ : ∃ t, ix acts i = some t := ⟨_, ix_get h0 (by omega)⟩
    have j4 : ∀ (cut : Int) (dead : Bool) (d : api_Disk), (cut = -1 ∨ 0 ≤ cut) → d.A.length ≤ 200 → d.B.length ≤ 200 → Sat (hocketlaw21_KeepPlays.J4 1000 ag i cut dead d ⟨d, cut, dead⟩) (fun _ => True) := fun cut dead d hc hA hB => by
      unfold hocketlaw21_KeepPlays.J4
      refine sat_b (krec_eq (d := d) (by omega) (by omega) _ _) (sat_b (rread_disk (by decide) (by omega) (by omega) (by omega) (by omega)) (sat_b (kdisk_eq (d := d) (by omega) (by omega) _ _) ?_))
      unfold hocketref11_SameDisk.f
      rw [if_pos rfl]
      refine sat_b rfl (sat_t (by simp) (sat_b rfl (sat_t rfl (sat_t rfl ?_))))
      unfold hocketlaw21_KeepPlays.J5
      rw [e1]
      exact sat_f (by simp) (hag _ ⟨hc, by simp only; omega, by simp only; omega, hA, hB, rfl⟩ (by simp only; omega))
    refine sat_b ht (sat_if (fun _ => ?_) (fun _ => ?_))
    · refine sat_b ht (sat_b rfl ?_)
      exact j4 _ dead d (.inr (by rw [mx_eq]; omega)) hA hB
    · obtain ⟨r, hr⟩ : ∃ r : api_Record, r = ⟨shr .i64 t 3, i, shr .i64 t 9⟩ := ⟨_, rfl⟩
      have lw : ∀ c, (writeS d r c).A.length ≤ 200 ∧ (writeS d r c).B.length ≤ 200 := fun c => writeS_len hA hB (by decide)
      have j6 : ∀ want : Bool, want = (putS d cut dead r).1 → Sat (hocketlaw21_KeepPlays.J6 1000 ⟨d, cut, dead⟩ t i t dead ag cut d want) (fun _ => True) := fun want hwant => by
        unfold hocketlaw21_KeepPlays.J6
        rw [← hr]
        refine sat_b (put_eq (d := d) (by omega) (by omega) cut dead r) (sat_t hwant.symm (sat_if (fun hd => ?_) (fun hd => ?_)))
        · subst hd
          exact j4 cut true d hc hA hB
        · have hd : dead = false := by simpa using hd
          subst hd
          refine sat_if (fun hc0 => ?_) (fun hc0 => ?_)
          · have hp : putS d cut false r = (false, writeS d r (mn cut (longS d r - 1)), true) := by
              unfold putS
              rw [if_neg (by simp), if_neg (by omega)]
            have hlg := longS_le d r hA hB
            have j8 : ∀ n : Int, n = longS d r → Sat (hocketlaw21_KeepPlays.J8 1000 d t i t ag cut ((putS d cut false r).1, (putS d cut false r).2.1.A, (putS d cut false r).2.1.B, cut, (putS d cut false r).2.2) n) (fun _ => True) := fun n hn => by
              unfold hocketlaw21_KeepPlays.J8 hocketlaw21_KeepPlays.J7
              rw [← hr, w64_id (by omega), hn, hp]
              refine sat_b (rwrite_disk (by decide) (by omega) (by omega) (by omega) (by omega) _ _) ?_
              exact j4 cut true _ hc (lw _).1 (lw _).2
            refine sat_b (rwrite_disk (by decide) (by omega) (by omega) (by omega) (by omega) _ _) (sat_if (fun ha => j8 _ (by unfold longS; rw [if_pos ha])) (fun ha => j8 _ (by unfold longS; rw [if_neg ha])))
          · have hcm : cut = -1 := by omega
            subst hcm
            unfold hocketlaw21_KeepPlays.J7
            rw [← hr]
            refine sat_b (rwrite_disk (by decide) (by omega) (by omega) (by omega) (by omega) _ _) ?_
            exact j4 (-1) false _ hc (lw _).1 (lw _).2
      refine sat_b ht (sat_b ht (sat_if (fun hd => j6 _ ?_) (fun hd => j6 _ ?_)))
      · rw [hd]; rfl
      · have hd : dead = false := by simpa using hd
        subst hd
        unfold putS
        rw [if_neg (by simp)]
        by_cases hcm : cut = -1
        · subst hcm; rfl
        · rw [if_neg hcm, decide_eq_false (by omega)]
  refine sat_loop (fun v : Int × api_Disk => (5 - v.1).toNat) (fun v => 0 ≤ v.1 ∧ v.2.A.length ≤ 40 ∧ v.2.B.length ≤ 40) ?_ 1000 _ ⟨by simp, by simp, by simp⟩ (by simp)
  rintro ⟨i, d⟩ ⟨h0, hA, hB⟩ ag hag
  simp only at h0 hA hB
  have out : Sat (hocketlaw21_KeepPlays.J9 1000 nums i d ag (fun v => hocketlaw21_KeepPlays.J1 1000 acts v) false) (fun _ => True) := by
    unfold hocketlaw21_KeepPlays.J9
    exact sat_f (by simp) (main d (by omega) (by omega))
  show Sat (hocketlaw21_KeepPlays.B2 1000 nums _ ag i d) _
  unfold hocketlaw21_KeepPlays.B2
  refine sat_if (fun c1 => ?_) (fun _ => out)
  unfold hocketlaw21_KeepPlays.J9
  refine sat_if (fun c2 => ?_) (fun _ => main d (by omega) (by omega))
  have hi : i < 5 := of_decide_eq_true c2
  refine sat_b (ix_get h0 (by omega)) (sat_b (rwrite_disk (by decide) (by omega) (by omega) (by omega) (by omega) _ _) ?_)
  have hl := writeS_len (r := (⟨nums[i.toNat]'(by omega), 0, 0⟩ : api_Record)) (c := -1) hA hB (Nat.le_refl _)
  rw [w64_id (by omega)]
  exact hag _ ⟨by simp only; omega, hl.1, hl.2⟩ (by simp only; omega)
end Go.Gp
