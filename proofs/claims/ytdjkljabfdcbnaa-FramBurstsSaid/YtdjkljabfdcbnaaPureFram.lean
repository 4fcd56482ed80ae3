/- What the statements say, of the plain functions. -/
import Derived.Test.YtdjkljabfdcbnaaDefs
import Derived.Test.YtdjkljabfdcbnaaLe
import Derived.Test.YtdjkljabfdcbnaaThInts
import Derived.Test.YtdjkljabfdcbnaaThPack
import Derived.Test.YtdjkljabfdcbnaaThMesg
import Derived.Test.YtdjkljabfdcbnaaThMesg2
import Derived.Test.YtdjkljabfdcbnaaThMesg3
import Derived.Test.YtdjkljabfdcbnaaThMesg4
import Derived.Test.YtdjkljabfdcbnaaThMesg5
import Derived.Test.YtdjkljabfdcbnaaThMesg6
import Derived.Test.YtdjkljabfdcbnaaThMsg
import Derived.Test.YtdjkljabfdcbnaaThMesg7
import Derived.Test.YtdjkljabfdcbnaaThMesg8
import Derived.Test.YtdjkljabfdcbnaaGpCrc
import Derived.Test.YtdjkljabfdcbnaaThCrc
import Derived.Test.YtdjkljabfdcbnaaThFram
/- Frames that are cut, or have more behind, or of which bits were turned, are none. -/
namespace Go.Gp
open Go
theorem awake_fram : hocketlaw12_awake.f 3000 = some () := by
  obtain ⟨m, hm⟩ : ∃ m : api_Msg, m = ⟨1, 1, 2, 9, 0, 0, false, 0, 0, 0, 0, ([] : List UInt8), 0, 0, ([] : List Int), ([] : List Int), 0, (⟨0, 0, (⟨0, 0, ([] : List UInt8), ([] : List UInt8), ([] : List UInt8)⟩ : api_Cmd)⟩ : api_Entry)⟩ := ⟨_, rfl⟩
  have ok : OkM m := by subst hm; exact ⟨by simp, by simp, by unfold far; simp, .inl rfl⟩
  have hc : canM m = m := by subst hm; rfl
  have hz : ¬OkM zmsg := fun h => by
    obtain ⟨_, _, _, g⟩ := h
    simp [zmsg] at g
  have hlen : (wire m).length = 4 := by
    have e : tailW m = [] := by subst hm; rfl
    unfold wire
    rw [e]
    subst hm
    rw [numsL_cons, numsL_cons, numsL_cons, numsL_cons, numsL_nil]
    have en : ∀ n : Nat, n < 128 → (enc (held2 (n : Int))).length = 1 := fun n hn => by rw [held2_nat n (by omega), enc_lt hn]; rfl
    have e1 := en 1 (by omega)
    have e2 := en 2 (by omega)
    have e9 := en 9 (by omega)
    simp only [List.length_append, List.length_nil]
    have c1 : ((1 : Nat) : Int) = 1 := rfl
    have c2 : ((2 : Nat) : Int) = 2 := rfl
    have c9 : ((9 : Nat) : Int) = 9 := rfl
    rw [c1] at e1
    rw [c2] at e2
    rw [c9] at e9
    omega
  unfold hocketlaw12_awake.f
  rw [← hm, wrap_eq (ok_mild ok hc)]
  unfold wrapM
  rw [if_pos ok]
  simp only [Option.bind_some]
  have hs : (sealB (wire m)).length = 8 := by rw [sealB_len, hlen]
  rw [open_eq (by omega), openM_wrap ok]
  simp only [Option.bind_some]
  rw [show w64 (Int.tdiv ((sealB (wire m)).length : Int) 2) = 4 by rw [hs]; rfl, cut_eq ⟨by omega, by omega, by omega⟩]
  simp only [Option.bind_some]
  rw [show List.drop (Int.toNat 0) (List.take (Int.toNat 4) (sealB (wire m))) = (sealB (wire m)).take 4 from rfl, open_eq (by rw [List.length_take]; omega)]
  simp only [Option.bind_some]
  rw [if_pos (by omega), if_pos trivial, hc, ok_same ok hc]
  simp only [Option.bind_some]
  rw [if_pos (by simp), if_neg (by rw [openM_take ok (by omega)]; simp)]
  rw [show fram_Wrap.f 3000 (⟨0, 0, 0, 0, 0, 0, false, 0, 0, 0, 0, ([] : List UInt8), 0, 0, ([] : List Int), ([] : List Int), 0, (⟨0, 0, (⟨0, 0, ([] : List UInt8), ([] : List UInt8), ([] : List UInt8)⟩ : api_Cmd)⟩ : api_Entry)⟩ : api_Msg) = some [] from (wrap_eq (m := zmsg) ⟨by simp [zmsg], by simp [zmsg], by simp [zmsg], by simp [zmsg], by simp [zmsg]⟩).trans (by unfold wrapM; rw [if_neg hz])]
  simp only [Option.bind_some]
  rw [if_pos (by simp)]
theorem sat_awake : Sat (hocketlaw12_awake.f 3000) (fun _ => True) := ⟨(), awake_fram, trivial⟩
theorem fin_awake : Sat (Option.bind (hocketlaw12_awake.f 3000) fun _ => some ()) (fun _ => True) := sat_b awake_fram (sat_r trivial)
/-- A message of numbers, wrapped. -/
theorem wrap_num {m : api_Msg} (h : OkM m) (hc : canM m = m) : fram_Wrap.f 3000 m = some (sealB (wire m)) := by
  rw [wrap_eq (ok_mild h hc)]
  unfold wrapM
  rw [if_pos h]
theorem seal_len {m : api_Msg} (h : OkM m) : 8 ≤ (sealB (wire m)).length ∧ (sealB (wire m)).length ≤ 224 := by
  have h1 := wire_ok_len h
  have h2 := wire_pos m
  rw [sealB_len]
  omega
theorem hocketlaw12_FramShort.pure (x0 x1 x2 x3 x4 : Int) (x5 : UInt8) (_ : i64ok x0) (_ : i64ok x1) (_ : i64ok x2) (_ : i64ok x3) (_ : i64ok x4) : ∃ K r, hocketlaw12_FramShort.f K x0 x1 x2 x3 x4 x5 = some r := by
  refine ⟨3000, sat_pure ?_⟩
  unfold hocketlaw12_FramShort.f
  refine sat_bs (msg_num x0 x1) (fun m ⟨ok, hc⟩ => sat_bs (msg_num x2 x3) (fun n ⟨ok2, hc2⟩ => ?_))
  refine sat_b (wrap_num ok hc) (sat_b (wrap_num ok2 hc2) ?_)
  have l1 := seal_len ok
  have l2 := seal_len ok2
  refine sat_f (by omega) ?_
  rw [show decide (((sealB (wire n)).length : Int) < 5) = false by rw [decide_eq_false_iff_not]; omega]
  unfold hocketlaw12_FramShort.J1
  refine sat_f (by simp) ?_
  refine sat_b (open_eq (by omega)) (sat_b (open_eq (by omega)) (sat_b (app_eq (by simp; omega)) (sat_b (app_eq (by simp; omega)) (sat_b (open_eq (by simp; omega)) ?_))))
  rw [openM_wrap ok, openM_wrap ok2]
  refine sat_t rfl (sat_t rfl ?_)
  have hne : sealB (wire m) ≠ [] := fun h => by rw [h] at l1; simp at l1
  rw [List.nil_append]
  refine sat_f (by rw [openM_more ok hne]; simp) ?_
  rw [hc, hc2]
  refine sat_b (ok_same ok hc n) ?_
  have he : ((sealB (wire m) == sealB (wire n)) == decide (m = n)) = true := by
    by_cases e : m = n
    · subst e; simp
    · have : sealB (wire m) ≠ sealB (wire n) := fun h => by
        have := wire_inj ok ok2 (sealB_inj h)
        rw [hc, hc2] at this
        exact e this
      simp [e, this]
  rw [he]
  unfold hocketlaw12_FramShort.J2
  refine sat_f (by simp) ?_
  have hb := band_lt x4 65535 16 rfl (by decide)
  have ht := tmod_nn (x := band .i64 x4 65535) (y := 4) hb.1 (by decide)
  refine sat_b (cut_eq ⟨by omega, by omega, by omega⟩) (sat_b (open_eq (by simp only [List.length_drop, List.length_take]; omega)) ?_)
  rw [openM_short (by simp only [List.length_drop, List.length_take]; omega)]
  refine sat_f (by simp) ?_
  exact fin_awake
/-! ### one bit -/
theorem xor_ne {x t : UInt8} (h : t ≠ 0) : x ≠ x ^^^ t := fun e => h (by
  have : x ^^^ (x ^^^ t) = x ^^^ x := by rw [← e]
  rw [← UInt8.xor_assoc] at this
  simpa using this)
theorem bit_ne (i : Nat) : toU8 (((1 : UInt8).toNat : Int) * 2 ^ (min (wu64 (band .i64 (i : Int) 7) : Int).toNat 8)) ≠ 0 := by
  rw [show (7 : Int) = 2 ^ 3 - 1 from rfl, band_mask _ 3 (by decide), show (2 : Int) ^ 3 = 8 from rfl]
  have h : ((i : Int) % 8) = 0 ∨ ((i : Int) % 8) = 1 ∨ ((i : Int) % 8) = 2 ∨ ((i : Int) % 8) = 3 ∨ ((i : Int) % 8) = 4 ∨ ((i : Int) % 8) = 5 ∨ ((i : Int) % 8) = 6 ∨ ((i : Int) % 8) = 7 := by omega
  rcases h with h | h | h | h | h | h | h | h <;> rw [h] <;> decide
theorem hocketlaw12_FramTurned.pure (x0 x1 : Int) (_ : i64ok x0) (_ : i64ok x1) : ∃ K r, hocketlaw12_FramTurned.f K x0 x1 = some r := by
  refine ⟨3000, sat_pure ?_⟩
  unfold hocketlaw12_FramTurned.f
  refine sat_bs (msg_num x0 x1) (fun m ⟨ok, hc⟩ => ?_)
  refine sat_b (wrap_num ok hc) ?_
  have l1 := seal_len ok
  refine sat_b (open_eq (by omega)) ?_
  rw [openM_wrap ok, hc]
  refine sat_t rfl (sat_b (ok_same ok hc m) (sat_t (by simp) ?_))
  rw [show decide (((sealB (wire m)).length : Int) > 300) = false by rw [decide_eq_false_iff_not]; omega]
  unfold hocketlaw12_FramTurned.J1
  refine sat_f (by simp) ?_
  have hw : w64 (8 * ((sealB (wire m)).length : Int)) = ((8 * (sealB (wire m)).length : Nat) : Int) := by rw [w64_id (by omega)]; omega
  refine sat_loop (fun v : Int => (((8 * (sealB (wire m)).length : Nat) : Int) - v).toNat) (fun v => ∃ i : Nat, v = i ∧ i ≤ 8 * (sealB (wire m)).length) ?_ 3000 _ ⟨0, rfl, by omega⟩ (by omega)
  rintro _ ⟨i, rfl, hi⟩ ag hag
  show Sat (hocketlaw12_FramTurned.B1 3000 _ _ ag i) _
  unfold hocketlaw12_FramTurned.B1
  rw [hw]
  refine sat_if (fun hlt => ?_) (fun _ => ?_)
  · have hd : w64 (Int.tdiv (i : Int) 8) = ((i / 8 : Nat) : Int) := by
      rw [Int.tdiv_eq_ediv_of_nonneg (by omega), w64_id (by omega)]; omega
    rw [hd]
    refine sat_b (app_eq (by simp; omega)) ?_
    rw [List.nil_append]
    have hk : i / 8 < (sealB (wire m)).length := by omega
    have hg := ix_get (xs := sealB (wire m)) (i := ((i / 8 : Nat) : Int)) (by omega) (by rw [Int.toNat_natCast]; exact hk)
    refine sat_b hg (sat_b hg ?_)
    simp only [Int.toNat_natCast]
    refine sat_b (open_eq (by rw [List.length_set]; omega)) ?_
    rw [openM_none (unsealB_turn hk (xor_ne (bit_ne i)))]
    refine sat_f (by simp) ?_
    have hs : w64 ((i : Int) + 1) = ((i + 1 : Nat) : Int) := by rw [w64_succ (by omega) (by omega)]; simp
    rw [hs]
    exact hag _ ⟨i + 1, rfl, by omega⟩ (by omega)
  · show Sat (hocketlaw12_FramTurned.J2 3000) _
    unfold hocketlaw12_FramTurned.J2
    exact fin_awake
/-! ### four bytes in a row -/
def tur (x : Int) (i : Nat) : UInt8 := toU8 (shr .i64 x ((8 * i : Nat) : Int))
theorem four_parts {l : List UInt8} {k : Nat} (h : k + 4 ≤ l.length) : ∃ x0 x1 x2 x3, l = l.take k ++ [x0, x1, x2, x3] ++ l.drop (k + 4) ∧ (l.take k).length = k := by
  refine ⟨l[k], l[k + 1], l[k + 2], l[k + 3], ?_, by rw [List.length_take]; omega⟩
  have e0 : l.drop k = l[k] :: l.drop (k + 1) := List.drop_eq_getElem_cons (by omega)
  have e1 : l.drop (k + 1) = l[k + 1] :: l.drop (k + 2) := List.drop_eq_getElem_cons (by omega)
  have e2 : l.drop (k + 2) = l[k + 2] :: l.drop (k + 3) := List.drop_eq_getElem_cons (by omega)
  have e3 : l.drop (k + 3) = l[k + 3] :: l.drop (k + 4) := List.drop_eq_getElem_cons (by omega)
  conv => lhs; rw [← List.take_append_drop k l, e0, e1, e2, e3]
  simp
/-- Four bytes in a row turned: no frame. -/
theorem unsealB_burst {B a r : List UInt8} {x0 x1 x2 x3 t0 t1 t2 t3 : UInt8} (h : sealB B = a ++ [x0, x1, x2, x3] ++ r) (ha : a.length = 0 ∨ 4 ≤ a.length) (ht : ¬(t0 = 0 ∧ t1 = 0 ∧ t2 = 0 ∧ t3 = 0)) :
    unsealB (a ++ [x0 ^^^ t0, x1 ^^^ t1, x2 ^^^ t2, x3 ^^^ t3] ++ r) = none := by
  cases hu : unsealB (a ++ [x0 ^^^ t0, x1 ^^^ t1, x2 ^^^ t2, x3 ^^^ t3] ++ r) with
  | none => rfl
  | some x =>
    exfalso
    have e := unsealB_some hu
    have e0 : ∀ u t : UInt8, u ^^^ t = u → t = 0 := fun u t h => by
      have h2 : u ^^^ (u ^^^ t) = u ^^^ u := by rw [h]
      rw [← UInt8.xor_assoc] at h2
      simpa using h2
    rcases ha with ha | ha
    · obtain rfl : a = [] := List.eq_nil_of_length_eq_zero ha
      unfold sealB at h e
      simp only [List.nil_append] at h e
      obtain ⟨h1, h2⟩ := List.append_inj h rfl
      obtain ⟨h3, h4⟩ := List.append_inj e rfl
      rw [← h4, ← h2, h1] at h3
      simp only [List.cons.injEq, and_true] at h3
      exact ht ⟨e0 _ _ h3.1, e0 _ _ h3.2.1, e0 _ _ h3.2.2.1, e0 _ _ h3.2.2.2⟩
    · unfold sealB at h e
      obtain ⟨p, q, rfl, hp⟩ : ∃ p q : List UInt8, a = p ++ q ∧ p.length = 4 := ⟨a.take 4, a.drop 4, (List.take_append_drop 4 a).symm, by rw [List.length_take]; omega⟩
      simp only [List.append_assoc] at h e
      obtain ⟨h1, h2⟩ := List.append_inj h (by rw [le4_len, hp])
      obtain ⟨h3, h4⟩ := List.append_inj e (by rw [le4_len, hp])
      have hcr : crc x = crc B := le4_inj (h3.symm.trans h1.symm)
      rw [← h4, h2] at hcr
      have := crc_four (l := q) (r := r) (x0 := x0) (x1 := x1) (x2 := x2) (x3 := x3) (t0 := t0) (t1 := t1) (t2 := t2) (t3 := t3) (by simpa using hcr)
      exact ht this
theorem burst_loop {B a r : List UInt8} {x0 x1 x2 x3 : UInt8} (x : Int) (h : sealB B = a ++ [x0, x1, x2, x3] ++ r) (hl : (sealB B).length ≤ 1000) {R : Unit → Prop}
    (fin : ∀ b : Bool, (b = true ↔ ¬(tur x 0 = 0 ∧ tur x 1 = 0 ∧ tur x 2 = 0 ∧ tur x 3 = 0)) → Sat (hocketlaw12_FramBursts.J3 3000 (a ++ [x0 ^^^ tur x 0, x1 ^^^ tur x 1, x2 ^^^ tur x 2, x3 ^^^ tur x 3] ++ r) b) R) :
    Sat (hocketlaw12_FramBursts.J2 3000 (sealB B) x (a.length : Int)) R := by
  unfold hocketlaw12_FramBursts.J2
  refine sat_b (app_eq (by simp; omega)) ?_
  rw [List.nil_append]
  have hlen := congrArg List.length h
  simp only [List.length_append, List.length_cons, List.length_nil] at hlen
  have tu : ∀ i : Nat, i < 4 → toU8 (shr .i64 x (wu64 (w64 (8 * (i : Int))))) = tur x i := fun i hi => by
    unfold tur
    rw [w64_id (by omega), wu64_id (by omega)]
    congr 2
  have hne : ∀ t : UInt8, ((t.toNat : Int) != ((0 : UInt8).toNat : Int)) = decide (t ≠ 0) := fun t => by
    rw [Bool.eq_iff_iff, bne_iff_ne, decide_eq_true_eq, ne_eq, ne_eq, ← UInt8.toNat_inj]
    omega
  obtain ⟨sl, hsl⟩ : ∃ sl : Nat → List UInt8, sl = fun i => match i with
    | 0 => a ++ [x0, x1, x2, x3] ++ r
    | 1 => a ++ [x0 ^^^ tur x 0, x1, x2, x3] ++ r
    | 2 => a ++ [x0 ^^^ tur x 0, x1 ^^^ tur x 1, x2, x3] ++ r
    | 3 => a ++ [x0 ^^^ tur x 0, x1 ^^^ tur x 1, x2 ^^^ tur x 2, x3] ++ r
    | _ => a ++ [x0 ^^^ tur x 0, x1 ^^^ tur x 1, x2 ^^^ tur x 2, x3 ^^^ tur x 3] ++ r := ⟨_, rfl⟩
  obtain ⟨xs, hxs⟩ : ∃ xs : Nat → UInt8, xs = fun i => match i with | 0 => x0 | 1 => x1 | 2 => x2 | _ => x3 := ⟨_, rfl⟩
  have slen : ∀ i, (sl i).length = (sealB B).length := fun i => by
    rw [hsl]
    match i with
    | 0 => simp; omega
    | 1 => simp; omega
    | 2 => simp; omega
    | 3 => simp; omega
    | _ + 4 => simp; omega
  have sget : ∀ i (_ : i < 4), (sl i)[a.length + i]? = some (xs i) := fun i hi => by
    rw [hsl, hxs]
    match i, hi with
    | 0, _ => show (a ++ [x0, x1, x2, x3] ++ r)[a.length + 0]? = some x0; rw [List.append_assoc, List.getElem?_append_right (by omega), Nat.add_sub_cancel_left]; rfl
    | 1, _ => show (a ++ [x0 ^^^ tur x 0, x1, x2, x3] ++ r)[a.length + 1]? = some x1; rw [List.append_assoc, List.getElem?_append_right (by omega), Nat.add_sub_cancel_left]; rfl
    | 2, _ => show (a ++ [x0 ^^^ tur x 0, x1 ^^^ tur x 1, x2, x3] ++ r)[a.length + 2]? = some x2; rw [List.append_assoc, List.getElem?_append_right (by omega), Nat.add_sub_cancel_left]; rfl
    | 3, _ => show (a ++ [x0 ^^^ tur x 0, x1 ^^^ tur x 1, x2 ^^^ tur x 2, x3] ++ r)[a.length + 3]? = some x3; rw [List.append_assoc, List.getElem?_append_right (by omega), Nat.add_sub_cancel_left]; rfl
  have sset : ∀ i (_ : i < 4), (sl i).set (a.length + i) (xs i ^^^ tur x i) = sl (i + 1) := fun i hi => by
    rw [hsl, hxs]
    match i, hi with
    | 0, _ => show (a ++ [x0, x1, x2, x3] ++ r).set (a.length + 0) (x0 ^^^ tur x 0) = a ++ [x0 ^^^ tur x 0, x1, x2, x3] ++ r; simp only [List.append_assoc]; rw [List.set_append_right _ _ (by omega), Nat.add_sub_cancel_left]; rfl
    | 1, _ => show (a ++ [x0 ^^^ tur x 0, x1, x2, x3] ++ r).set (a.length + 1) (x1 ^^^ tur x 1) = a ++ [x0 ^^^ tur x 0, x1 ^^^ tur x 1, x2, x3] ++ r; simp only [List.append_assoc]; rw [List.set_append_right _ _ (by omega), Nat.add_sub_cancel_left]; rfl
    | 2, _ => show (a ++ [x0 ^^^ tur x 0, x1 ^^^ tur x 1, x2, x3] ++ r).set (a.length + 2) (x2 ^^^ tur x 2) = a ++ [x0 ^^^ tur x 0, x1 ^^^ tur x 1, x2 ^^^ tur x 2, x3] ++ r; simp only [List.append_assoc]; rw [List.set_append_right _ _ (by omega), Nat.add_sub_cancel_left]; rfl
    | 3, _ => show (a ++ [x0 ^^^ tur x 0, x1 ^^^ tur x 1, x2 ^^^ tur x 2, x3] ++ r).set (a.length + 3) (x3 ^^^ tur x 3) = a ++ [x0 ^^^ tur x 0, x1 ^^^ tur x 1, x2 ^^^ tur x 2, x3 ^^^ tur x 3] ++ r; simp only [List.append_assoc]; rw [List.set_append_right _ _ (by omega), Nat.add_sub_cancel_left]; rfl
  refine sat_loop (fun v : List UInt8 × Bool × Int => (4 - v.2.2).toNat) (fun v => ∃ i : Nat, v.2.2 = i ∧ i ≤ 4 ∧ v.1 = sl i ∧ (v.2.1 = true ↔ ∃ j, j < i ∧ tur x j ≠ 0)) ?_ 3000 _ ⟨0, rfl, by omega, by rw [hsl]; exact h, by simp⟩ (by simp only; omega)
  rintro ⟨c, q, _⟩ ⟨i, rfl, hi, hc, hq⟩ ag hag
  simp only at hc hq
  subst hc
  show Sat (hocketlaw12_FramBursts.B1 3000 _ x _ ag (sl i) q i) _
  unfold hocketlaw12_FramBursts.B1
  refine sat_if (fun hlt => ?_) (fun hge => ?_)
  · have hi4 : i < 4 := by omega
    have hw : w64 ((a.length : Int) + (i : Int)) = ((a.length + i : Nat) : Int) := by rw [w64_id (by omega)]; omega
    have hs : w64 ((i : Int) + 1) = ((i + 1 : Nat) : Int) := by rw [w64_succ (by omega) (by omega)]; simp
    rw [hw, hs, tu i hi4]
    have hg : ix (sl i) ((a.length + i : Nat) : Int) = some (xs i) := ix_eq (by omega) (by rw [Int.toNat_natCast]; exact sget i hi4)
    refine sat_b hg (sat_b hg ?_)
    rw [Int.toNat_natCast, sset i hi4, hne]
    have grow : ∀ b : Bool, (b = true ↔ q = true ∨ tur x i ≠ 0) → (b = true ↔ ∃ j, j < i + 1 ∧ tur x j ≠ 0) := fun b hb => by
      rw [hb, hq]
      constructor
      · rintro (⟨j, h1, h2⟩ | h2)
        · exact ⟨j, by omega, h2⟩
        · exact ⟨i, by omega, h2⟩
      · rintro ⟨j, h1, h2⟩
        by_cases hj : j = i
        · subst hj; exact .inr h2
        · exact .inl ⟨j, by omega, h2⟩
    refine sat_if (fun hq1 => ?_) (fun hq1 => ?_)
    · exact hag _ ⟨i + 1, rfl, by omega, rfl, grow _ (by simp [hq1])⟩ (by simp only; omega)
    · exact hag _ ⟨i + 1, rfl, by omega, rfl, grow _ (by simp [hq1])⟩ (by simp only; omega)
  · have : i = 4 := by omega
    subst this
    have e : sl 4 = a ++ [x0 ^^^ tur x 0, x1 ^^^ tur x 1, x2 ^^^ tur x 2, x3 ^^^ tur x 3] ++ r := by rw [hsl]; rfl
    show Sat (hocketlaw12_FramBursts.J3 3000 (sl 4) q) _
    rw [e]
    refine fin q ?_
    rw [hq]
    constructor
    · rintro ⟨j, h1, h2⟩ ⟨g0, g1, g2, g3⟩
      have : j = 0 ∨ j = 1 ∨ j = 2 ∨ j = 3 := by omega
      rcases this with rfl | rfl | rfl | rfl
      · exact h2 g0
      · exact h2 g1
      · exact h2 g2
      · exact h2 g3
    · intro g
      by_cases g0 : tur x 0 = 0
      · by_cases g1 : tur x 1 = 0
        · by_cases g2 : tur x 2 = 0
          · by_cases g3 : tur x 3 = 0
            · exact absurd ⟨g0, g1, g2, g3⟩ g
            · exact ⟨3, by omega, g3⟩
          · exact ⟨2, by omega, g2⟩
        · exact ⟨1, by omega, g1⟩
      · exact ⟨0, by omega, g0⟩
theorem hocketlaw12_FramBursts.pure (x0 x1 x2 x3 : Int) (_ : i64ok x0) (_ : i64ok x1) (_ : i64ok x2) (_ : i64ok x3) : ∃ K r, hocketlaw12_FramBursts.f K x0 x1 x2 x3 = some r := by
  refine ⟨3000, sat_pure ?_⟩
  unfold hocketlaw12_FramBursts.f
  refine sat_bs (msg_num x0 x1) (fun m ⟨ok, hc⟩ => ?_)
  refine sat_b (wrap_num ok hc) ?_
  have l1 := seal_len ok
  refine sat_f (by omega) ?_
  have hw : w64 (((sealB (wire m)).length : Int) - 3) = ((sealB (wire m)).length : Int) - 3 := w64_id (by omega)
  rw [hw]
  refine sat_b (rem_eq (by omega)) ?_
  have hb := band_lt x2 65535 16 rfl (by decide)
  have ht := tmod_nn (x := band .i64 x2 65535) (y := ((sealB (wire m)).length : Int) - 3) hb.1 (by omega)
  generalize Int.tmod (band .i64 x2 65535) (((sealB (wire m)).length : Int) - 3) = k at ht
  have go : ∀ q : Nat, q + 4 ≤ (sealB (wire m)).length → (q = 0 ∨ 4 ≤ q) → Sat (hocketlaw12_FramBursts.J2 3000 (sealB (wire m)) x3 (q : Int)) (fun _ => True) := fun q h1 h2 => by
    obtain ⟨y0, y1, y2, y3, hy, hq⟩ := four_parts h1
    have e := burst_loop (R := fun _ => True) x3 hy (by omega) (fun b hb => by
      unfold hocketlaw12_FramBursts.J3
      refine sat_b (open_eq (by have := congrArg List.length hy; simp only [List.length_append, List.length_cons, List.length_nil] at this ⊢; omega)) ?_
      by_cases hz : tur x3 0 = 0 ∧ tur x3 1 = 0 ∧ tur x3 2 = 0 ∧ tur x3 3 = 0
      · obtain ⟨z0, z1, z2, z3⟩ := hz
        have hbf : b = false := by
          cases b with
          | false => rfl
          | true => exact absurd ⟨z0, z1, z2, z3⟩ (hb.1 rfl)
        rw [z0, z1, z2, z3]
        simp only [UInt8.xor_zero]
        rw [← hy, openM_wrap ok]
        refine sat_t (by rw [hbf]; rfl) ?_
        exact fin_awake
      · have hbt : b = true := hb.2 hz
        rw [openM_none (unsealB_burst hy (by rw [hq]; exact h2) hz)]
        refine sat_t (by rw [hbt]; rfl) ?_
        exact fin_awake)
    rw [hq] at e
    exact e
  refine sat_if (fun hk => ?_) (fun hk => ?_)
  · unfold hocketlaw12_FramBursts.J1
    refine sat_if (fun h4 => ?_) (fun h4 => ?_)
    · rw [decide_eq_true_eq] at h4
      exact go 4 (by omega) (.inr (by omega))
    · rw [decide_eq_true_eq] at h4
      obtain ⟨q, rfl⟩ : ∃ q : Nat, k = q := ⟨k.toNat, by omega⟩
      exact go q (by omega) (.inr (by omega))
  · unfold hocketlaw12_FramBursts.J1
    refine sat_f (by simp) ?_
    have : k = ((0 : Nat) : Int) := by omega
    rw [this]
    exact go 0 (by omega) (.inl rfl)
end Go.Gp
