/- What the statements say, of the plain functions. -/
import Derived.Test.YtlofhblfdkjloaaDefs
import Derived.Test.YtlofhblfdkjloaaLe
import Derived.Test.YtlofhblfdkjloaaGpCrc
import Derived.Test.YtlofhblfdkjloaaThPack
import Derived.Test.YtlofhblfdkjloaaThPack1
import Derived.Test.YtlofhblfdkjloaaThCrc
import Derived.Test.YtlofhblfdkjloaaThDisk
/- Two slots, in plain words: which is read, and what a write leaves. -/
namespace Go.Gp
open Go
def norec : api_Record := ⟨0, 0, 0⟩
/-- The slot that is read: its number, its record, whether it is B. -/
def whichS (d : api_Disk) : Option (Nat × api_Record × Bool) :=
  match openS d.A, openS d.B with
  | none, none => none
  | some a, none => some (a.1, a.2, false)
  | none, some b => some (b.1, b.2, true)
  | some a, some b => if a.1 < b.1 then some (b.1, b.2, true) else some (a.1, a.2, false)
def readS (d : api_Disk) : api_Record × Bool := match whichS d with | some x => (x.2.1, true) | none => (norec, false)
def cutS (c : Int) (s : List UInt8) : List UInt8 := if 0 ≤ c ∧ c < (s.length : Int) then s.take c.toNat else s
def slotW (d : api_Disk) (r : api_Record) : List UInt8 := match whichS d with | some x => slotB ((x.1 + 1 : Nat) : Int) r | none => slotB 1 r
def writeS (d : api_Disk) (r : api_Record) (c : Int) : api_Disk := match whichS d with | some (_, _, false) => ⟨d.A, cutS c (slotW d r)⟩ | _ => ⟨cutS c (slotW d r), d.B⟩
theorem cutS_len (c : Int) (s : List UInt8) : (cutS c s).length ≤ s.length := by
  unfold cutS
  split
  · rw [List.length_take]; omega
  · omega
theorem slotW_len (d : api_Disk) (r : api_Record) : (slotW d r).length ≤ 40 := by
  unfold slotW
  split <;> exact slotB_len _ _
theorem writeS_len {d : api_Disk} {r : api_Record} {c : Int} {m : Nat} (hA : d.A.length ≤ m) (hB : d.B.length ≤ m) (hm : 40 ≤ m) : (writeS d r c).A.length ≤ m ∧ (writeS d r c).B.length ≤ m := by
  have h1 := cutS_len c (slotW d r)
  have h2 := slotW_len d r
  unfold writeS
  split
  · exact ⟨hA, by simp only; omega⟩
  · exact ⟨by simp only; omega, hB⟩
theorem whichS_le {d : api_Disk} {x : Nat × api_Record × Bool} (h : whichS d = some x) : x.1 ≤ 1099511627776 := by
  have a : ∀ b y, openS b = some y → y.1 ≤ 1099511627776 := fun b y h => (openS_some (n := y.1) (r := y.2) h).2.1
  unfold whichS at h
  split at h
  · cases h
  · rename_i ha hb; cases h; exact a _ _ ha
  · rename_i ha hb; cases h; exact a _ _ hb
  · rename_i ha hb
    split at h
    · cases h; exact a _ _ hb
    · cases h; exact a _ _ ha
theorem whichS_A {d : api_Disk} {n : Nat} {x : api_Record} (h : whichS d = some (n, x, false)) : openS d.A = some (n, x) ∧ ∀ y, openS d.B = some y → y.1 ≤ n := by
  unfold whichS at h
  split at h
  · cases h
  · rename_i a ha hb; cases h; exact ⟨ha, fun y hy => by rw [hb] at hy; cases hy⟩
  · cases h
  · rename_i a b ha hb
    split at h
    · cases h
    · cases h; exact ⟨ha, fun y hy => by rw [hb] at hy; cases hy; omega⟩
theorem whichS_B {d : api_Disk} {n : Nat} {x : api_Record} (h : whichS d = some (n, x, true)) : openS d.B = some (n, x) ∧ ∀ y, openS d.A = some y → y.1 < n := by
  unfold whichS at h
  split at h
  · cases h
  · cases h
  · rename_i b ha hb; cases h; exact ⟨hb, fun y hy => by rw [ha] at hy; cases hy⟩
  · rename_i a b ha hb
    split at h
    · cases h; exact ⟨hb, fun y hy => by rw [ha] at hy; cases hy; assumption⟩
    · cases h
theorem whichS_none {d : api_Disk} (h : whichS d = none) : openS d.A = none ∧ openS d.B = none := by
  unfold whichS at h
  split at h
  · exact ⟨‹_›, ‹_›⟩
  · cases h
  · cases h
  · split at h <;> cases h
theorem cutW {d : api_Disk} {n : Nat} {x r : api_Record} {q : Bool} {c : Int} (h : whichS d = some (n, x, q)) (hc : c < 0 ∨ ((slotW d r).length : Int) ≤ c) : cutS c (slotW d r) = slotB ((n + 1 : Nat) : Int) r := by
  unfold cutS
  rw [if_neg (by omega)]
  unfold slotW
  rw [h]
theorem openW {n : Nat} {r : api_Record} (hn : n < 1099511627776) : openS (slotB ((n + 1 : Nat) : Int) r) = some (n + 1, rec40 r) := by rw [openS_slot, h40_nat _ (by omega)]
theorem whichW_A {d : api_Disk} {n : Nat} {x r : api_Record} {s : List UInt8} (hA : openS d.A = some (n, x)) (ho : openS s = some (n + 1, r)) : whichS ⟨d.A, s⟩ = some (n + 1, r, true) := by
  unfold whichS
  simp only [hA, ho]
  rw [if_pos (Nat.lt_succ_self n)]
theorem whichW_B {d : api_Disk} {n : Nat} {x r : api_Record} {s : List UInt8} (hA : openS d.B = some (n, x)) (ho : openS s = some (n + 1, r)) : whichS ⟨s, d.B⟩ = some (n + 1, r, false) := by
  unfold whichS
  simp only [hA, ho]
  rw [if_neg (by omega)]
/-- A whole write. -/
theorem write_A {d : api_Disk} {n : Nat} {x r : api_Record} {c : Int} (h : whichS d = some (n, x, false)) (hn : n < 1099511627776) (hc : c < 0 ∨ ((slotW d r).length : Int) ≤ c) : writeS d r c = ⟨d.A, slotB ((n + 1 : Nat) : Int) r⟩ ∧ whichS (writeS d r c) = some (n + 1, rec40 r, true) := by
  have e : writeS d r c = ⟨d.A, slotB ((n + 1 : Nat) : Int) r⟩ := by
    unfold writeS
    rw [h, cutW h hc]
  exact ⟨e, by rw [e]; exact whichW_A (whichS_A h).1 (openW hn)⟩
theorem write_B {d : api_Disk} {n : Nat} {x r : api_Record} {c : Int} (h : whichS d = some (n, x, true)) (hn : n < 1099511627776) (hc : c < 0 ∨ ((slotW d r).length : Int) ≤ c) : writeS d r c = ⟨slotB ((n + 1 : Nat) : Int) r, d.B⟩ ∧ whichS (writeS d r c) = some (n + 1, rec40 r, false) := by
  have e : writeS d r c = ⟨slotB ((n + 1 : Nat) : Int) r, d.B⟩ := by
    unfold writeS
    rw [h, cutW h hc]
  exact ⟨e, by rw [e]; exact whichW_B (whichS_B h).1 (openW hn)⟩
theorem write_whole {d : api_Disk} {n : Nat} {x r : api_Record} {q : Bool} {c : Int} (h : whichS d = some (n, x, q)) (hn : n < 1099511627776) (hc : c < 0 ∨ ((slotW d r).length : Int) ≤ c) : whichS (writeS d r c) = some (n + 1, rec40 r, !q) := by
  cases q with
  | false => exact (write_A h hn hc).2
  | true => exact (write_B h hn hc).2
theorem write_first {d : api_Disk} {r : api_Record} {c : Int} (h : whichS d = none) (hc : c < 0 ∨ ((slotW d r).length : Int) ≤ c) : whichS (writeS d r c) = some (1, rec40 r, false) := by
  have hs : cutS c (slotW d r) = slotB 1 r := by
    unfold cutS
    rw [if_neg (by omega)]
    unfold slotW
    rw [h]
  have ho : openS (slotB 1 r) = some (1, rec40 r) := by rw [openS_slot]; rfl
  obtain ⟨_, hB⟩ := whichS_none h
  unfold writeS
  rw [h]
  simp only [hs]
  unfold whichS
  simp only [hB, ho]
/-- A write that is cut: what is read stays. -/
theorem write_torn {d : api_Disk} {r : api_Record} {c : Int} (hc : 0 ≤ c ∧ c < ((slotW d r).length : Int)) : whichS (writeS d r c) = whichS d := by
  have ht : openS (cutS c (slotW d r)) = none := by
    unfold cutS
    rw [if_pos hc]
    unfold slotW at hc ⊢
    split at hc <;> exact openS_take _ _ (by omega)
  cases h : whichS d with
  | none =>
    obtain ⟨_, hB⟩ := whichS_none h
    unfold writeS
    rw [h]
    simp only
    unfold whichS
    simp only [hB, ht]
  | some y =>
    obtain ⟨n, x, q⟩ := y
    unfold writeS
    rw [h]
    cases q with
    | false =>
      obtain ⟨hA, _⟩ := whichS_A h
      simp only
      unfold whichS
      simp only [hA, ht]
    | true =>
      obtain ⟨hB, _⟩ := whichS_B h
      simp only
      unfold whichS
      simp only [hB, ht]
/-! ### the program -/
theorem which_eq {K : Nat} (hK : 100 ≤ K) {d : api_Disk} (hA : d.A.length + 10 ≤ K) (hB : d.B.length + 10 ≤ K) (hA2 : d.A.length ≤ 100000000) (hB2 : d.B.length ≤ 100000000) :
    disk_which.f K d = some (match whichS d with | some (n, x, q) => ((n : Int), x, q, true) | none => (0, norec, false, false)) := by
  unfold disk_which.f whichS
  rw [open_eq hK hA hA2]
  simp only [Option.bind_some]
  rw [open_eq hK hB hB2]
  simp only [Option.bind_some]
  cases h1 : openS d.A with
  | none =>
    cases h2 : openS d.B with
    | none => rfl
    | some y => rfl
  | some x =>
    obtain ⟨n, x⟩ := x
    cases h2 : openS d.B with
    | none => rfl
    | some y =>
      obtain ⟨k, y⟩ := y
      simp only
      unfold disk_which.J1
      simp only [if_true]
      by_cases hlt : n < k
      · rw [if_pos hlt, if_pos (decide_eq_true (by omega))]
      · rw [if_neg hlt, if_neg (by simp; omega)]
theorem read_disk {K : Nat} (hK : 100 ≤ K) {d : api_Disk} (hA : d.A.length + 10 ≤ K) (hB : d.B.length + 10 ≤ K) (hA2 : d.A.length ≤ 100000000) (hB2 : d.B.length ≤ 100000000) : disk_Read.f K d = some (readS d) := by
  unfold disk_Read.f readS
  rw [which_eq hK hA hB hA2 hB2]
  simp only [Option.bind_some]
  cases whichS d <;> rfl
theorem write_disk {K : Nat} (hK : 100 ≤ K) {d : api_Disk} (hA : d.A.length + 10 ≤ K) (hB : d.B.length + 10 ≤ K) (hA2 : d.A.length ≤ 100000000) (hB2 : d.B.length ≤ 100000000) (r : api_Record) (c : Int) : disk_Write.f K d r c = some (writeS d r c) := by
  have hc : ∀ s : List UInt8, s.length ≤ 1000 → ∀ t, (if c ≥ 0 then disk_Write.J1 K s c d t (decide (c < (s.length : Int))) else disk_Write.J1 K s c d t false) = disk_Write.J2 K d t (cutS c s) := fun s hs t => by
    unfold cutS disk_Write.J1
    by_cases h0 : c ≥ 0
    · rw [if_pos h0]
      by_cases h1 : c < (s.length : Int)
      · rw [if_pos (decide_eq_true h1), if_pos ⟨h0, h1⟩]
        obtain ⟨k, rfl⟩ : ∃ k : Nat, c = k := ⟨c.toNat, by omega⟩
        rw [take_cut (by omega)]
        simp only [Option.bind_some]
        rw [clone_u8 (by rw [List.length_take]; omega)]
        rfl
      · rw [if_neg (by simp; omega), if_neg (fun h => h1 h.2)]
    · rw [if_neg h0, if_neg (by simp), if_neg (fun h => h0 h.1)]
  have hj : ∀ t s, disk_Write.J2 K d t s = some (if t.2.2.2 = true ∧ t.2.2.1 = false then (⟨d.A, s⟩ : api_Disk) else ⟨s, d.B⟩) := fun t s => by
    unfold disk_Write.J2 disk_Write.J3 disk_Write.J4
    rw [clone_u8 (by omega), clone_u8 (by omega)]
    simp only [Option.bind_some]
    obtain ⟨t1, t2, t3, t4⟩ := t
    cases t3 <;> cases t4 <;> simp
  unfold disk_Write.f writeS slotW
  rw [which_eq hK hA hB hA2 hB2]
  simp only [Option.bind_some]
  cases h : whichS d with
  | none =>
    simp only
    rw [show w64 (0 + 1) = 1 by decide, slot_eq hK]
    simp only [Option.bind_some]
    have := slotB_len 1 r
    rw [hc _ (by omega), hj]
    rfl
  | some y =>
    have hle := whichS_le h
    obtain ⟨n, x, q⟩ := y
    simp only at hle ⊢
    rw [show w64 ((n : Int) + 1) = ((n + 1 : Nat) : Int) by rw [w64_id (by omega)]; omega, slot_eq hK]
    simp only [Option.bind_some]
    have := slotB_len ((n + 1 : Nat) : Int) r
    rw [hc _ (by omega), hj]
    cases q <;> rfl
/-! ### the document -/
theorem slot1_eq {K : Nat} (hK : 100 ≤ K) {b : List UInt8} (hb : b.length + 10 ≤ K) (hb2 : b.length ≤ 100000000) : hocketref11_slot.f K b = some (match openS b with | some (n, r) => ((n : Int), r) | none => (-1, norec)) := by
  unfold hocketref11_slot.f openS
  rw [unfour_eq (by omega) (by omega) hb2]
  simp only [Option.bind_some]
  cases hu : unsealB b with
  | none => rfl
  | some x =>
    have hx := unsealB_some hu
    have hxl : x.length ≤ b.length := by rw [hx, sealB_len]; omega
    simp only
    rw [if_pos (by trivial), rnum1_eq (by omega) (by omega)]
    simp only [Option.bind_some]
    have bad : ∀ c : List UInt8, c.length ≤ 100000000 → hocketref1_Reader_Num.f K c true 1099511627776 = some (0, c, true) := fun c hc => by
      rw [rnum1_eq (by omega) (by omega)]; rfl
    unfold rnum1 rd4
    rw [if_neg (by simp)]
    cases h1 : rd 1099511627776 x with
    | none =>
      simp only
      rw [bad _ (by omega)]
      simp only [Option.bind_some]
      rw [bad _ (by omega)]
      simp only [Option.bind_some]
      rw [bad _ (by omega)]
      rfl
    | some v1 =>
      obtain ⟨n, b1⟩ := v1
      have l1 := rd_len h1
      simp only
      rw [rnum1_eq (by omega) (by omega)]
      simp only [Option.bind_some]
      unfold rnum1
      rw [if_neg (by simp)]
      cases h2 : rd 1099511627776 b1 with
      | none =>
        simp only
        rw [bad _ (by omega)]
        simp only [Option.bind_some]
        rw [bad _ (by omega)]
        rfl
      | some v2 =>
        obtain ⟨i, b2⟩ := v2
        have l2 := rd_len h2
        simp only
        rw [rnum1_eq (by omega) (by omega)]
        simp only [Option.bind_some]
        unfold rnum1
        rw [if_neg (by simp)]
        cases h3 : rd 1099511627776 b2 with
        | none =>
          simp only
          rw [bad _ (by omega)]
          rfl
        | some v3 =>
          obtain ⟨p, b3⟩ := v3
          have l3 := rd_len h3
          simp only
          rw [rnum1_eq (by omega) (by omega)]
          simp only [Option.bind_some]
          unfold rnum1
          rw [if_neg (by simp)]
          cases h4 : rd 1099511627776 b3 with
          | none => rfl
          | some v4 =>
            obtain ⟨q, b4⟩ := v4
            simp only
            rw [End1_eq]
            simp only [Option.bind_some, Bool.not_false, Bool.true_and]
            by_cases he : b4 = []
            · rw [if_pos (decide_eq_true he), if_pos he]
            · rw [if_neg (by simp [he]), if_neg he]
              rfl
theorem nums_eq {K : Nat} (hK : 20 ≤ K) : ∀ (l : List Int) (b : List UInt8), l.length < K → l.length ≤ 1000 → b.length ≤ 1000000 → hocketref11_nums.f K b l = some (b ++ l.flatMap fun n => enc (held2 n)) := by
  intro l b hl hl2 hb
  unfold hocketref11_nums.f hocketref11_nums.L1
  have key : ∀ (n i : Nat) (K' : Nat) (b : List UInt8), i + n = l.length → n < K' → b.length ≤ 1000000 + 9 * i → iter (fun again v => hocketref11_nums.B1 K l (fun v => hocketref11_nums.J1 K v) again v.1 v.2) K' (b, (i : Int)) = some (b ++ (l.drop i).flatMap fun n => enc (held2 n)) := by
    intro n
    induction n with
    | zero =>
      intro i K' b hi hK' hb
      obtain ⟨k, rfl⟩ : ∃ k, K' = k + 1 := ⟨K' - 1, by omega⟩
      rw [iter_succ]
      dsimp only
      unfold hocketref11_nums.B1
      rw [if_neg (by omega), List.drop_eq_nil_of_le (by omega)]
      simp [hocketref11_nums.J1]
    | succ n ih =>
      intro i K' b hi hK' hb
      obtain ⟨k, rfl⟩ : ∃ k, K' = k + 1 := ⟨K' - 1, by omega⟩
      have h1 : i < l.length := by omega
      rw [iter_succ]
      dsimp only
      unfold hocketref11_nums.B1
      rw [if_pos (by omega), ix_get (by omega) (by simpa using h1)]
      simp only [Option.bind_some, Int.toNat_natCast]
      have h9 := enc_held l[i]
      rw [num1_eq hK (by omega)]
      simp only [Option.bind_some]
      rw [w64_succ (by omega) (by omega)]
      have := ih (i + 1) k (b ++ enc (held2 l[i])) (by omega) (by omega) (by rw [List.length_append]; omega)
      refine this.trans ?_
      rw [List.drop_eq_getElem_cons h1, List.flatMap_cons, List.append_assoc]
  have := key l.length 0 K b (by omega) hl (by omega)
  simpa using this
theorem rslot_eq {K : Nat} (hK : 100 ≤ K) (n : Int) (r : api_Record) : hocketref11_Slot.f K n r = some (slotB n r) := by
  have hl := slotB_len n r
  unfold slotB at hl
  rw [sealB_len] at hl
  have hh : ∀ v, hocketref11_held.f v = some (h40 v : Int) := fun v => by unfold hocketref11_held.f; rw [mnmx40]
  unfold hocketref11_Slot.f
  rw [hh, hh, hh, hh]
  simp only [Option.bind_some]
  rw [nums_eq (by omega) _ _ (by simp; omega) (by simp) (by simp)]
  simp only [Option.bind_some, List.flatMap_cons, List.flatMap_nil, held2_h40, List.append_nil, List.nil_append]
  have e : enc (h40 n) ++ (enc (h40 r.Inc) ++ (enc (h40 r.Prom) ++ enc (h40 r.Inst))) = body4 (h40 n) (h40 r.Inc) (h40 r.Prom) (h40 r.Inst) := rfl
  rw [e, four_eq (by omega) (by omega) (by omega)]
  rfl
theorem rread_disk {K : Nat} (hK : 100 ≤ K) {d : api_Disk} (hA : d.A.length + 10 ≤ K) (hB : d.B.length + 10 ≤ K) (hA2 : d.A.length ≤ 100000000) (hB2 : d.B.length ≤ 100000000) : hocketref11_ReadDisk.f K d = some (readS d) := by
  unfold hocketref11_ReadDisk.f readS whichS
  rw [slot1_eq hK hA hA2]
  simp only [Option.bind_some]
  rw [slot1_eq hK hB hB2]
  simp only [Option.bind_some]
  cases h1 : openS d.A with
  | none =>
    cases h2 : openS d.B with
    | none => rfl
    | some y =>
      obtain ⟨k, y⟩ := y
      simp only
      rw [if_pos (by omega), decide_eq_false (by omega)]
      unfold hocketref11_ReadDisk.J1
      rw [if_neg (by simp), if_neg (by simp only; omega)]
  | some x =>
    obtain ⟨n, x⟩ := x
    cases h2 : openS d.B with
    | none =>
      simp only
      rw [if_neg (by omega)]
      unfold hocketref11_ReadDisk.J1
      rw [if_neg (by simp), if_pos (by simp only; omega)]
    | some y =>
      obtain ⟨k, y⟩ := y
      simp only
      rw [if_neg (by omega)]
      unfold hocketref11_ReadDisk.J1
      rw [if_neg (by simp)]
      by_cases hlt : n < k
      · rw [if_pos hlt, if_neg (by simp only; omega)]
      · rw [if_neg hlt, if_pos (by simp only; omega)]
theorem rwrite_disk {K : Nat} (hK : 100 ≤ K) {d : api_Disk} (hA : d.A.length + 10 ≤ K) (hB : d.B.length + 10 ≤ K) (hA2 : d.A.length ≤ 100000000) (hB2 : d.B.length ≤ 100000000) (r : api_Record) (c : Int) : hocketref11_WriteDisk.f K d r c = some (writeS d r c) := by
  have hc : ∀ s : List UInt8, s.length ≤ 1000 → ∀ t u, (if c ≥ 0 then hocketref11_WriteDisk.J3 K s c d t u (decide (c < (s.length : Int))) else hocketref11_WriteDisk.J3 K s c d t u false) = hocketref11_WriteDisk.J4 K d t u (cutS c s) := fun s hs t u => by
    unfold cutS hocketref11_WriteDisk.J3
    by_cases h0 : c ≥ 0
    · rw [if_pos h0]
      by_cases h1 : c < (s.length : Int)
      · rw [if_pos (decide_eq_true h1), if_pos ⟨h0, h1⟩]
        obtain ⟨k, rfl⟩ : ∃ k : Nat, c = k := ⟨c.toNat, by omega⟩
        rw [take_cut (by omega)]
        rfl
      · rw [if_neg (by simp; omega), if_neg (fun h => h1 h.2)]
    · rw [if_neg h0, if_neg (by simp), if_neg (fun h => h0 h.1)]
  have hj : ∀ (t u : Int × api_Record) s, hocketref11_WriteDisk.J4 K d t u s = some (if t.1 ≥ u.1 ∧ t.1 ≥ 0 then (⟨d.A, s⟩ : api_Disk) else ⟨s, d.B⟩) := fun t u s => by
    unfold hocketref11_WriteDisk.J4 hocketref11_WriteDisk.J5 hocketref11_WriteDisk.J6
    rw [app_eq (by simp; omega), app_eq (by simp; omega)]
    simp only [Option.bind_some, List.nil_append]
    by_cases h1 : t.1 ≥ u.1 <;> by_cases h2 : t.1 ≥ 0 <;> simp [h1, h2]
  have hn : ∀ (m : Int) t u, hocketref11_WriteDisk.J2 K r c d t u m = some (if t.1 ≥ u.1 ∧ t.1 ≥ 0 then (⟨d.A, cutS c (slotB m r)⟩ : api_Disk) else ⟨cutS c (slotB m r), d.B⟩) := fun m t u => by
    unfold hocketref11_WriteDisk.J2
    have := slotB_len m r
    rw [rslot_eq hK]
    simp only [Option.bind_some]
    rw [hc _ (by omega), hj]
  have le : ∀ b y, openS b = some y → y.1 ≤ 1099511627776 := fun b y h => (openS_some (n := y.1) (r := y.2) h).2.1
  have hw : ∀ k : Nat, k ≤ 1099511627776 → w64 ((k : Int) + 1) = ((k + 1 : Nat) : Int) := fun k h => by rw [w64_id (by omega)]; omega
  unfold hocketref11_WriteDisk.f writeS slotW whichS
  rw [slot1_eq hK hA hA2]
  simp only [Option.bind_some]
  rw [slot1_eq hK hB hB2]
  simp only [Option.bind_some]
  unfold hocketref11_WriteDisk.J1
  cases h1 : openS d.A with
  | none =>
    cases h2 : openS d.B with
    | none =>
      simp only
      rw [if_neg (by omega), decide_eq_false (by omega), if_neg (by simp), hn, if_neg (by simp only; omega)]
    | some y =>
      have l2 := le _ _ h2
      obtain ⟨k, y⟩ := y
      simp only at l2 ⊢
      rw [if_neg (by omega), decide_eq_true (by omega), if_pos rfl, hn, if_neg (by simp only; omega), mx_eq, show max (-1 : Int) (k : Int) = (k : Int) by omega, hw _ l2]
  | some x =>
    have l1 := le _ _ h1
    obtain ⟨n, x⟩ := x
    cases h2 : openS d.B with
    | none =>
      simp only at l1 ⊢
      rw [if_pos (by omega), if_pos trivial, hn, if_pos (by simp only; omega), mx_eq, show max (n : Int) (-1 : Int) = (n : Int) by omega, hw _ l1]
    | some y =>
      have l2 := le _ _ h2
      obtain ⟨k, y⟩ := y
      simp only at l1 l2 ⊢
      rw [if_pos (by omega), if_pos trivial, hn, mx_eq]
      by_cases hlt : n < k
      · rw [if_pos hlt, if_neg (by simp only; omega), show max (n : Int) (k : Int) = (k : Int) by omega, hw _ l2]
      · rw [if_neg hlt, if_pos (by simp only; omega), show max (n : Int) (k : Int) = (n : Int) by omega, hw _ l1]
end Go.Gp
