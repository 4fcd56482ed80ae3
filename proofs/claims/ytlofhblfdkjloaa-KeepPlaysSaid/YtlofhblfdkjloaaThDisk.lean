/- What the statements say, of the plain functions. -/
import Derived.Test.YtlofhblfdkjloaaDefs
import Derived.Test.YtlofhblfdkjloaaLe
import Derived.Test.YtlofhblfdkjloaaGpCrc
import Derived.Test.YtlofhblfdkjloaaThPack
import Derived.Test.YtlofhblfdkjloaaThPack1
import Derived.Test.YtlofhblfdkjloaaThCrc
/- Two slots, in plain words: what the program and the document tell. -/
namespace Go.Gp
open Go
/-- A number within 0 and 2 to the 40. -/
def h40 (n : Int) : Nat := (min (max n 0) 1099511627776).toNat
theorem h40_le (n : Int) : h40 n ≤ 1099511627776 := by unfold h40; omega
theorem h40_nat (n : Nat) (h : n ≤ 1099511627776) : h40 (n : Int) = n := by unfold h40; omega
theorem mnmx40 (n : Int) : mn (mx n 0) 1099511627776 = (h40 n : Int) := by rw [mx_eq, mn_eq]; unfold h40; omega
theorem held2_h40 (n : Int) : held2 (h40 n : Int) = h40 n := held2_nat _ (by have := h40_le n; omega)
theorem held2_far : held2 1099511627776 = 1099511627776 := by decide
def body4 (n i p q : Nat) : List UInt8 := enc n ++ (enc i ++ (enc p ++ enc q))
def slotB (n : Int) (r : api_Record) : List UInt8 := sealB (body4 (h40 n) (h40 r.Inc) (h40 r.Prom) (h40 r.Inst))
theorem enc_h40 (n : Int) : (enc (h40 n)).length ≤ 9 := enc_len9 (by have := h40_le n; omega)
theorem slotB_len (n : Int) (r : api_Record) : (slotB n r).length ≤ 40 := by
  have h0 := enc_h40 n
  have h1 := enc_h40 r.Inc
  have h2 := enc_h40 r.Prom
  have h3 := enc_h40 r.Inst
  unfold slotB
  rw [sealB_len]
  unfold body4
  simp only [List.length_append]
  omega
theorem slotB_pos (n : Int) (r : api_Record) : 8 ≤ (slotB n r).length := by
  have h0 := enc_pos (h40 n)
  have h1 := enc_pos (h40 r.Inc)
  have h2 := enc_pos (h40 r.Prom)
  have h3 := enc_pos (h40 r.Inst)
  unfold slotB
  rw [sealB_len]
  unfold body4
  simp only [List.length_append]
  omega
/-- Four numbers that are all. -/
def rd4 (b : List UInt8) : Option (Nat × Nat × Nat × Nat) :=
  match rd 1099511627776 b with
  | none => none
  | some (n, b1) => match rd 1099511627776 b1 with
    | none => none
    | some (i, b2) => match rd 1099511627776 b2 with
      | none => none
      | some (p, b3) => match rd 1099511627776 b3 with
        | none => none
        | some (q, b4) => if b4 = [] then some (n, i, p, q) else none
theorem rd4_some {b : List UInt8} {n i p q : Nat} (h : rd4 b = some (n, i, p, q)) : b = body4 n i p q ∧ n ≤ 1099511627776 ∧ i ≤ 1099511627776 ∧ p ≤ 1099511627776 ∧ q ≤ 1099511627776 := by
  unfold rd4 at h
  split at h
  · cases h
  · rename_i n' b1 h1
    split at h
    · cases h
    · rename_i i' b2 h2
      split at h
      · cases h
      · rename_i p' b3 h3
        split at h
        · cases h
        · rename_i q' b4 h4
          split at h
          · rename_i h5
            subst h5
            simp only [Option.some.injEq, Prod.mk.injEq] at h
            obtain ⟨rfl, rfl, rfl, rfl⟩ := h
            obtain ⟨l1, e1⟩ := rd_some h1
            obtain ⟨l2, e2⟩ := rd_some h2
            obtain ⟨l3, e3⟩ := rd_some h3
            obtain ⟨l4, e4⟩ := rd_some h4
            rw [held2_far] at l1 l2 l3 l4
            subst e4 e3 e2
            exact ⟨by rw [e1]; unfold body4; simp, l1, l2, l3, l4⟩
          · cases h
theorem rd4_body {n i p q : Nat} (h1 : n ≤ 1099511627776) (h2 : i ≤ 1099511627776) (h3 : p ≤ 1099511627776) (h4 : q ≤ 1099511627776) : rd4 (body4 n i p q) = some (n, i, p, q) := by
  unfold rd4 body4
  rw [rd_enc (by rw [held2_far]; exact h1)]
  dsimp only
  rw [rd_enc (by rw [held2_far]; exact h2)]
  dsimp only
  rw [rd_enc (by rw [held2_far]; exact h3)]
  dsimp only
  have : enc q = enc q ++ [] := by simp
  rw [this, rd_enc (by rw [held2_far]; exact h4)]
  simp
/-- What a slot's bytes say. -/
def openS (b : List UInt8) : Option (Nat × api_Record) :=
  match unsealB b with
  | none => none
  | some x => match rd4 x with
    | none => none
    | some (n, i, p, q) => some (n, ⟨i, p, q⟩)
def far (n : Int) : Prop := 0 ≤ n ∧ n ≤ 1099511627776
theorem h40_far {n : Int} (h : far n) : (h40 n : Int) = n := by unfold far at h; unfold h40; omega
theorem openS_some {b : List UInt8} {n : Nat} {r : api_Record} (h : openS b = some (n, r)) : b = slotB n r ∧ n ≤ 1099511627776 ∧ far r.Inc ∧ far r.Prom ∧ far r.Inst := by
  unfold openS at h
  split at h
  · cases h
  · rename_i x hx
    split at h
    · cases h
    · rename_i n' i p q h4
      simp only [Option.some.injEq, Prod.mk.injEq] at h
      obtain ⟨rfl, rfl⟩ := h
      obtain ⟨e, l1, l2, l3, l4⟩ := rd4_some h4
      subst e
      have hb := unsealB_some hx
      refine ⟨?_, l1, ⟨by simp only; omega, by simp only; omega⟩, ⟨by simp only; omega, by simp only; omega⟩, ⟨by simp only; omega, by simp only; omega⟩⟩
      unfold slotB
      rw [h40_nat _ l1, h40_nat _ l2, h40_nat _ l3, h40_nat _ l4]
      exact hb
/-- What a record is as it is written. -/
def rec40 (r : api_Record) : api_Record := ⟨h40 r.Inc, h40 r.Prom, h40 r.Inst⟩
theorem rec40_far {r : api_Record} (h1 : far r.Inc) (h2 : far r.Prom) (h3 : far r.Inst) : rec40 r = r := by
  unfold rec40
  rw [h40_far h1, h40_far h2, h40_far h3]
theorem openS_slot (n : Int) (r : api_Record) : openS (slotB n r) = some (h40 n, rec40 r) := by
  unfold openS slotB
  rw [unsealB_sealB]
  dsimp only
  rw [rd4_body (h40_le _) (h40_le _) (h40_le _) (h40_le _)]
  rfl
theorem openS_nil : openS [] = none := by
  unfold openS unsealB
  rw [if_neg (by simp)]
theorem slotB_inj {n m : Int} {r s : api_Record} (h : slotB n r = slotB m s) : h40 n = h40 m ∧ rec40 r = rec40 s := by
  have := congrArg openS h
  rw [openS_slot, openS_slot] at this
  simp only [Option.some.injEq, Prod.mk.injEq] at this
  exact this
/-- What is but the beginning of a slot, or a slot with more behind, is none. -/
theorem body4_prefix {a b c d a' b' c' d' : Nat} {t : List UInt8} (h : body4 a b c d ++ t = body4 a' b' c' d') (ha : a ≤ 1099511627776) (hb : b ≤ 1099511627776) (hc : c ≤ 1099511627776) (hd : d ≤ 1099511627776) (ha' : a' ≤ 1099511627776) (hb' : b' ≤ 1099511627776) (hc' : c' ≤ 1099511627776) (hd' : d' ≤ 1099511627776) : t = [] := by
  have e : ∀ (x y : Nat) (r s : List UInt8), x ≤ 1099511627776 → y ≤ 1099511627776 → enc x ++ r = enc y ++ s → r = s := fun x y r s hx hy h => by
    have h1 := rd_enc (top := 1099511627776) (rest := r) (m := x) (by rw [held2_far]; exact hx)
    have h2 := rd_enc (top := 1099511627776) (rest := s) (m := y) (by rw [held2_far]; exact hy)
    rw [h, h2] at h1
    simp only [Option.some.injEq, Prod.mk.injEq] at h1
    exact h1.2.symm
  unfold body4 at h
  simp only [List.append_assoc] at h
  have h1 := e _ _ _ _ ha ha' h
  have h2 := e _ _ _ _ hb hb' h1
  have h3 := e _ _ _ _ hc hc' h2
  have h4 := e _ _ t [] hd hd' (by simpa using h3)
  exact h4
theorem sealB_eq {a b : List UInt8} {t : List UInt8} (h : sealB a ++ t = sealB b) : a ++ t = b := by
  unfold sealB at h
  rw [List.append_assoc] at h
  exact (List.append_inj h rfl).2
theorem openS_more (n : Int) (r : api_Record) {t : List UInt8} (ht : t ≠ []) : openS (slotB n r ++ t) = none := by
  cases h : openS (slotB n r ++ t) with
  | none => rfl
  | some x =>
    obtain ⟨m, s⟩ := x
    obtain ⟨e, _⟩ := openS_some h
    unfold slotB at e
    have := sealB_eq e
    exact absurd (body4_prefix this (h40_le _) (h40_le _) (h40_le _) (h40_le _) (h40_le _) (h40_le _) (h40_le _) (h40_le _)) ht
theorem openS_take (n : Int) (r : api_Record) {k : Nat} (hk : k < (slotB n r).length) : openS ((slotB n r).take k) = none := by
  cases h : openS ((slotB n r).take k) with
  | none => rfl
  | some x =>
    obtain ⟨m, s⟩ := x
    obtain ⟨e, _⟩ := openS_some h
    have e2 : slotB m s ++ (slotB n r).drop k = slotB n r := by rw [← e, List.take_append_drop]
    unfold slotB at e2
    have := sealB_eq e2
    have h0 := body4_prefix this (h40_le _) (h40_le _) (h40_le _) (h40_le _) (h40_le _) (h40_le _) (h40_le _) (h40_le _)
    have := congrArg List.length h0
    unfold slotB at hk
    rw [List.length_drop, List.length_nil] at this
    omega
/-- One byte turned: no slot. -/
theorem openS_turn (n : Int) (r : api_Record) {k : Nat} {y : UInt8} (hk : k < (slotB n r).length) (hne : (slotB n r)[k] ≠ y) : unsealB ((slotB n r).set k y) = none := by
  cases h : unsealB ((slotB n r).set k y) with
  | none => rfl
  | some x =>
    exfalso
    have e := unsealB_some h
    unfold slotB at e hk hne
    generalize hB : body4 (h40 n) (h40 r.Inc) (h40 r.Prom) (h40 r.Inst) = B at *
    have hd : (sealB B).drop 4 = B := List.drop_left' (le4_len _)
    have hd2 : (sealB x).drop 4 = x := List.drop_left' (le4_len _)
    by_cases h4 : k < 4
    · have e2 := congrArg (List.drop 4) e
      rw [List.drop_set_of_lt h4, hd, hd2] at e2
      subst e2
      have e3 := congrArg (fun l => l[k]?) e
      simp only [List.getElem?_set_self hk, List.getElem?_eq_getElem hk, Option.some.injEq] at e3
      exact hne e3.symm
    · have e2 := congrArg (List.drop 4) e
      have e4 := congrArg (List.take 4) e
      have t1 : (sealB B).take 4 = le4 (crc B) := List.take_left' (le4_len _)
      have t2 : (sealB x).take 4 = le4 (crc x) := List.take_left' (le4_len _)
      rw [List.take_set_of_le (by omega), t1, t2] at e4
      have hcrc := le4_inj e4
      have hset : ((sealB B).set k y).drop 4 = B.set (k - 4) y := by
        rw [List.drop_set, if_neg (by omega), hd]
      rw [hset, hd2] at e2
      have hlen : k - 4 < B.length := by rw [sealB_len] at hk; omega
      have hget : B[k - 4] = (sealB B)[k] := by
        have h5 : (sealB B)[k]? = B[k - 4]? := by
          conv => rhs; rw [← hd, List.getElem?_drop]
          rw [show 4 + (k - 4) = k by omega]
        rw [List.getElem?_eq_getElem hk, List.getElem?_eq_getElem hlen] at h5
        exact (Option.some.inj h5).symm
      rw [← e2] at hcrc
      exact crc_set hlen (by rw [hget]; exact hne) hcrc.symm
theorem openS_turned (n : Int) (r : api_Record) {k : Nat} {y : UInt8} (hk : k < (slotB n r).length) (hne : (slotB n r)[k] ≠ y) : openS ((slotB n r).set k y) = none := by
  unfold openS
  rw [openS_turn n r hk hne]
/-! ### the program's functions -/
theorem slot_eq {K : Nat} (hK : 100 ≤ K) (n : Int) (r : api_Record) : disk_Slot.f K n r = some (slotB n r) := by
  have hl := slotB_len n r
  unfold slotB at hl
  rw [sealB_len] at hl
  unfold disk_Slot.f disk_Slot.L1
  obtain ⟨k, rfl⟩ : ∃ k, K = k + 5 := ⟨K - 5, by omega⟩
  have h0 := enc_h40 n
  have h1 := enc_h40 r.Inc
  have h2 := enc_h40 r.Prom
  have h3 := enc_h40 r.Inst
  have step : ∀ (ex : List UInt8 → Option (List UInt8)) ag (b : List UInt8) (i : Nat) (v : Int), i < 4 → ([n, r.Inc, r.Prom, r.Inst] : List Int)[i]? = some v → b.length ≤ 1000 → disk_Slot.B1 (k + 5) n r ex ag b (i : Int) = ag (b ++ enc (h40 v), ((i + 1 : Nat) : Int)) := fun ex ag b i v hi hv hb => by
    unfold disk_Slot.B1
    rw [if_pos (by simp; omega), ix_eq (x := v) (by omega) (by simpa using hv)]
    simp only [Option.bind_some]
    rw [show disk_held.f v = some (h40 v : Int) by unfold disk_held.f; rw [mnmx40]]
    simp only [Option.bind_some]
    rw [num_eq (by omega) (by omega), held2_h40]
    simp only [Option.bind_some]
    rw [w64_succ (by omega) (by omega)]
    rfl
  have s0 := fun ex ag b => step ex ag b 0 n (by decide) rfl
  have s1 := fun ex ag b => step ex ag b 1 r.Inc (by decide) rfl
  have s2 := fun ex ag b => step ex ag b 2 r.Prom (by decide) rfl
  have s3 := fun ex ag b => step ex ag b 3 r.Inst (by decide) rfl
  rw [show k + 5 = k + 4 + 1 from rfl, iter_succ]
  dsimp only
  rw [show (0 : Int) = ((0 : Nat) : Int) from rfl, s0 _ _ _ (by simp), iter_succ]
  dsimp only
  rw [s1 _ _ _ (by simp; omega), iter_succ]
  dsimp only
  rw [s2 _ _ _ (by simp; omega), iter_succ]
  dsimp only
  rw [s3 _ _ _ (by simp; omega), iter_succ]
  dsimp only
  unfold disk_Slot.B1
  rw [if_neg (by simp)]
  unfold disk_Slot.J1
  dsimp only
  have e : [] ++ enc (h40 n) ++ enc (h40 r.Inc) ++ enc (h40 r.Prom) ++ enc (h40 r.Inst) = body4 (h40 n) (h40 r.Inc) (h40 r.Prom) (h40 r.Inst) := by unfold body4; simp
  rw [e, sum_eq (by omega) (by omega) (by omega)]
  simp only [Option.bind_some]
  rw [four_bytes, app_eq (by rw [le4_len]; omega)]
  rfl
theorem equal_u8 {K : Nat} {x y : List UInt8} (hK : x.length < K) (hx : x.length ≤ 100000000) : slices_Equal_sbyte_byte.f K x y = some (decide (x = y)) := by
  unfold slices_Equal_sbyte_byte.f
  by_cases hl : x.length = y.length
  · rw [if_pos (by omega)]
    have key : ∀ (n i : Nat) (K' : Nat), i + n = x.length → n < K' → iter (fun again v => slices_Equal_sbyte_byte.B1 K x y (fun v => slices_Equal_sbyte_byte.J1 K) again v) K' (i : Int) = some (decide (x.drop i = y.drop i)) := by
      intro n
      induction n with
      | zero =>
        intro i K' hi hK'
        obtain ⟨k, rfl⟩ : ∃ k, K' = k + 1 := ⟨K' - 1, by omega⟩
        rw [iter_succ]
        unfold slices_Equal_sbyte_byte.B1
        rw [if_neg (by omega), List.drop_eq_nil_of_le (by omega), List.drop_eq_nil_of_le (by omega)]
        simp [slices_Equal_sbyte_byte.J1]
      | succ n ih =>
        intro i K' hi hK'
        obtain ⟨k, rfl⟩ : ∃ k, K' = k + 1 := ⟨K' - 1, by omega⟩
        have h1 : i < x.length := by omega
        have h2 : i < y.length := by omega
        rw [iter_succ]
        unfold slices_Equal_sbyte_byte.B1
        rw [if_pos (by omega), ix_get (by omega) (by simpa using h1)]
        simp only [Option.bind_some, Int.toNat_natCast]
        rw [ix_get (by omega) (by simpa using h2)]
        simp only [Option.bind_some, Int.toNat_natCast]
        rw [List.drop_eq_getElem_cons h1, List.drop_eq_getElem_cons h2]
        by_cases he : x[i] = y[i]
        · rw [if_pos (by rw [he]), w64_succ (by omega) (by omega)]
          have := ih (i + 1) k (by omega) (by omega)
          refine this.trans ?_
          rw [he]
          congr 1
          exact decide_eq_decide.2 ⟨fun h => by rw [h], fun h => (List.cons.inj h).2⟩
        · rw [if_neg (fun h => he (UInt8.toNat_inj.1 (by omega)))]
          congr 1
          symm
          exact decide_eq_false (fun h => he (List.cons.inj h).1)
    have := key x.length 0 K (by omega) hK
    simpa [slices_Equal_sbyte_byte.L1] using this
  · rw [if_neg (by omega)]
    congr 1
    symm
    rw [decide_eq_false_iff_not]
    intro h
    exact hl (by rw [h])
theorem drop_cut {b : List UInt8} {k : Nat} (h : k ≤ b.length) : cut b (k : Int) (b.length : Int) = some (b.drop k) := by
  rw [cut_eq ⟨by omega, by omega, by omega⟩, Int.toNat_natCast, Int.toNat_natCast, List.take_length]
theorem take_cut {b : List UInt8} {k : Nat} (h : k ≤ b.length) : cut b 0 (k : Int) = some (b.take k) := by
  rw [cut_eq ⟨by omega, by omega, by omega⟩, Int.toNat_natCast]
  rfl
theorem End_eq (b : List UInt8) (bad : Bool) : pack_Reader_End.f b bad = some (!bad && decide (b = []), b, bad) := by
  unfold pack_Reader_End.f
  cases bad with
  | true => rfl
  | false =>
    rw [if_neg (by simp)]
    congr 2
    cases b with
    | nil => rfl
    | cons x t => simp; omega
theorem End1_eq (b : List UInt8) (bad : Bool) : hocketref1_Reader_End.f b bad = some (!bad && decide (b = []), b, bad) := by
  unfold hocketref1_Reader_End.f
  cases bad with
  | true => rfl
  | false =>
    rw [if_neg (by simp)]
    congr 2
    cases b with
    | nil => rfl
    | cons x t => simp; omega
theorem rnum_some {top : Int} {b r : List UInt8} {n : Nat} (bad : Bool) (h : rd top b = some (n, r)) : rnum top b bad = ((n : Int), r, bad) := by unfold rnum; rw [h]
theorem rnum_none {top : Int} {b : List UInt8} (bad : Bool) (h : rd top b = none) : rnum top b bad = (0, [], true) := by unfold rnum; rw [h]
theorem rnum_nil (top : Int) (bad : Bool) : rnum top [] bad = (0, [], true) := rfl
theorem open_eq {K : Nat} (hK : 100 ≤ K) {b : List UInt8} (hb : b.length + 10 ≤ K) (hb2 : b.length ≤ 100000000) : disk_open.f K b = some (match openS b with | some (n, r) => ((n : Int), r, true) | none => (0, ⟨0, 0, 0⟩, false)) := by
  unfold disk_open.f openS unsealB
  by_cases h4 : b.length < 4
  · rw [if_pos (by omega), if_neg (by omega)]
  · rw [if_neg (by omega)]
    have hc := drop_cut (b := b) (k := 4) (by omega)
    rw [show ((4 : Nat) : Int) = 4 from rfl] at hc
    rw [hc]
    simp only [Option.bind_some]
    have hlen : (b.drop 4).length ≤ 100000000 := by rw [List.length_drop]; omega
    rw [read_eq (by omega)]
    simp only [Option.bind_some]
    have hsplit : b = b.take 4 ++ b.drop 4 := (List.take_append_drop 4 b).symm
    generalize hx : b.drop 4 = x at *
    have bad : ∀ (p q s : Int × List UInt8 × Bool) (d : List UInt8) , (Option.bind (pack_Reader_End.f d true) fun t_54 => if t_54.1 = true then Option.bind (disk_Slot.f K p.1 (⟨q.1, s.1, 0⟩ : api_Record)) fun t_61 => Option.bind (slices_Equal_sbyte_byte.f K t_61 b) fun t_69 => disk_open.J1 K p q s (0, [], true) (!t_69) else disk_open.J1 K p q s (0, [], true) true) = some ((0 : Int), (⟨0, 0, 0⟩ : api_Record), false) := fun p q s d => rfl
    rw [rnum_eq (by omega) (by omega)]
    simp only [Option.bind_some]
    have none4 : rd4 x = none → (match (if 4 ≤ b.length ∧ b.take 4 = le4 (crc x) then some x else none) with | none => none | some y => match rd4 y with | none => none | some (n, i, p, q) => some (n, (⟨i, p, q⟩ : api_Record))) = none := fun h => by
      split
      · rfl
      · rename_i y hy
        split at hy
        · cases hy; rw [h]
        · cases hy
    cases h1 : rd 1099511627776 x with
    | none =>
      rw [none4 (by unfold rd4; rw [h1]), rnum_none _ h1, rnum_eq (by omega) (by simp)]
      simp only [Option.bind_some]
      rw [rnum_nil, rnum_eq (by omega) (by simp)]
      simp only [Option.bind_some]
      rw [rnum_nil, rnum_eq (by omega) (by simp)]
      rfl
    | some v1 =>
      obtain ⟨n, b1⟩ := v1
      have l1 := rd_len h1
      rw [rnum_some _ h1, rnum_eq (by omega) (by simp only; omega)]
      simp only [Option.bind_some]
      cases h2 : rd 1099511627776 b1 with
      | none =>
        rw [none4 (by unfold rd4; rw [h1]; simp only; rw [h2]), rnum_none _ h2, rnum_eq (by omega) (by simp)]
        simp only [Option.bind_some]
        rw [rnum_nil, rnum_eq (by omega) (by simp)]
        rfl
      | some v2 =>
        obtain ⟨i, b2⟩ := v2
        have l2 := rd_len h2
        rw [rnum_some _ h2, rnum_eq (by omega) (by simp only; omega)]
        simp only [Option.bind_some]
        cases h3 : rd 1099511627776 b2 with
        | none =>
          rw [none4 (by unfold rd4; rw [h1]; simp only; rw [h2]; simp only; rw [h3]), rnum_none _ h3, rnum_eq (by omega) (by simp)]
          rfl
        | some v3 =>
          obtain ⟨p, b3⟩ := v3
          have l3 := rd_len h3
          rw [rnum_some _ h3, rnum_eq (by omega) (by simp only; omega)]
          simp only [Option.bind_some]
          cases h5 : rd 1099511627776 b3 with
          | none =>
            rw [none4 (by unfold rd4; rw [h1]; simp only; rw [h2]; simp only; rw [h3]; simp only; rw [h5]), rnum_none _ h5]
            rfl
          | some v4 =>
            obtain ⟨q, b4⟩ := v4
            rw [rnum_some _ h5, End_eq]
            simp only [Option.bind_some, Bool.not_false, Bool.true_and]
            by_cases he : b4 = []
            · have hr : rd4 x = some (n, i, p, q) := by
                unfold rd4; rw [h1]; simp only; rw [h2]; simp only; rw [h3]; simp only; rw [h5]; simp only; rw [if_pos he]
              obtain ⟨e, m1, m2, m3, m4⟩ := rd4_some hr
              rw [if_pos (decide_eq_true he), slot_eq hK]
              simp only [Option.bind_some]
              have hsl := slotB_len n (⟨i, p, q⟩ : api_Record)
              rw [equal_u8 (by omega) (by omega)]
              simp only [Option.bind_some]
              have hs : slotB n (⟨i, p, q⟩ : api_Record) = sealB x := by
                unfold slotB
                rw [h40_nat _ m1, h40_nat _ m2, h40_nat _ m3, h40_nat _ m4, e]
              rw [hs]
              by_cases hcr : b.take 4 = le4 (crc x)
              · have : sealB x = b := by unfold sealB; rw [← hcr]; exact hsplit.symm
                rw [decide_eq_true this, if_pos ⟨by omega, hcr⟩]
                simp only [hr]
                rfl
              · have : sealB x ≠ b := fun h => hcr (by
                  rw [← h]; exact List.take_left' (le4_len _))
                rw [decide_eq_false this, if_neg (fun h => hcr h.2)]
                rfl
            · rw [if_neg (by simp [he]), none4 (by unfold rd4; rw [h1]; simp only; rw [h2]; simp only; rw [h3]; simp only; rw [h5]; simp only; rw [if_neg he])]
              rfl
end Go.Gp
