/- What the statements say, of the plain functions. -/
import Derived.Test.YtbjefkmbpbdhbaaDefs
import Derived.Test.YtbjefkmbpbdhbaaLe
import Derived.Test.YtbjefkmbpbdhbaaPure4
import Derived.Test.YtbjefkmbpbdhbaaPure2
/- Layer 2: numbers as bytes, there and back. -/
namespace Go.Gp
open Go
theorem ofInt_nat (n : Nat) (h : n < 2 ^ 64) : (BitVec.ofInt 64 (n : Int)).toNat = n := by
  rw [BitVec.toNat_ofInt]
  have : ((2 ^ 64 : Nat) : Int) = 2 ^ 64 := by norm_cast
  rw [this]
  omega
theorem bor_disj (a s c : Nat) (ha : a < 2 ^ s) (hb : a + 2 ^ s * c < 2 ^ 63) : bor .i64 (a : Int) ((2 ^ s * c : Nat) : Int) = ((a + 2 ^ s * c : Nat) : Int) := by
  have e : (BitVec.ofInt 64 (a : Int) ||| BitVec.ofInt 64 ((2 ^ s * c : Nat) : Int)).toNat = a + 2 ^ s * c := by
    rw [BitVec.toNat_or, ofInt_nat _ (by omega), ofInt_nat _ (by omega), Nat.or_comm, ← Nat.two_pow_add_eq_or_of_lt ha, Nat.add_comm]
  unfold bor
  show w64 _ = _
  rw [show IntKind.i64.bits = 64 from rfl, e]
  exact w64_id (by omega)
theorem shr7 (x : Nat) : shr .i64 (x : Int) 7 = ((x / 128 : Nat) : Int) := by
  unfold shr
  rw [show (2 : Int) ^ min (7 : Int).toNat IntKind.i64.bits = 128 from rfl, Int.fdiv_eq_ediv_of_nonneg _ (by decide)]
  omega
def enc (n : Nat) : List UInt8 := if h : 128 ≤ n then UInt8.ofNat (n % 128 + 128) :: enc (n / 128) else [UInt8.ofNat n]
termination_by n
decreasing_by omega
theorem enc_ge {n : Nat} (h : 128 ≤ n) : enc n = UInt8.ofNat (n % 128 + 128) :: enc (n / 128) := by rw [enc, dif_pos h]
theorem enc_lt {n : Nat} (h : n < 128) : enc n = [UInt8.ofNat n] := by rw [enc, dif_neg (by omega)]
theorem enc_len : ∀ (k n : Nat), n < 128 ^ (k + 1) → (enc n).length ≤ k + 1
  | 0, n, h => by rw [enc_lt (by simpa using h)]; simp
  | k + 1, n, h => by
    by_cases h1 : 128 ≤ n
    · rw [enc_ge h1, List.length_cons]
      have := enc_len k (n / 128) (by rw [Nat.pow_succ] at h; omega)
      omega
    · rw [enc_lt (by omega)]; simp
def held2 (n : Int) : Nat := (min (max n 0) 4611686018427387904).toNat
theorem held2_le (n : Int) : held2 n ≤ 4611686018427387904 := by unfold held2; omega
theorem held_eq (n : Int) : pack_held.f n = some (held2 n : Int) := by
  unfold pack_held.f held2
  rw [mx_eq, mn_eq]
  congr 1
  omega
theorem enc_len9 {n : Nat} (h : n ≤ 4611686018427387904) : (enc n).length ≤ 9 := enc_len 8 n (by have : (128 : Nat) ^ (8 + 1) = 9223372036854775808 := by decide
                                                                                                 omega)
theorem num2_eq {b : List UInt8} (hb : b.length ≤ 100000000) (n : Int) : pack_Num.f 100 b n = some (b ++ enc (held2 n)) := by
  unfold pack_Num.f
  rw [clone_eq (by omega), held_eq]
  simp only [Option.bind_some]
  have := iter_fun (f := fun again v => pack_Num.b_45 100 (fun v => pack_Num.j_25 100 v.1 v.2) again v.1 v.2) (fun v : Int × List UInt8 => (enc v.1.toNat).length) (fun v => 0 ≤ v.1 ∧ v.1 ≤ 4611686018427387904 ∧ v.2.length + (enc v.1.toNat).length ≤ 100000009) (fun v => some (v.2 ++ enc v.1.toNat)) (fun v hv => by
    obtain ⟨x, b⟩ := v
    obtain ⟨h1, h2, h3⟩ := hv
    simp only at h1 h2 h3 ⊢
    obtain ⟨m, rfl⟩ : ∃ m : Nat, x = m := ⟨x.toNat, by omega⟩
    simp only [Int.toNat_natCast] at h3 ⊢
    unfold pack_Num.b_45 pack_Num.j_25
    by_cases hge : (m : Int) ≥ 128
    · have e := enc_ge (n := m) (by omega)
      rw [e, List.length_cons] at h3
      have hc : toU8 (bor .i64 (band .i64 (m : Int) 127) 128) = UInt8.ofNat (m % 128 + 128) := by
        have e1 : band .i64 (m : Int) 127 = ((m % 128 : Nat) : Int) := by rw [show (127 : Int) = 2 ^ 7 - 1 from rfl, band_mask _ 7 (by decide)]; omega
        rw [e1, show (128 : Int) = ((2 ^ 7 * 1 : Nat) : Int) from rfl, bor_disj _ _ _ (by omega) (by omega)]
        unfold toU8
        congr 1
        omega
      refine .inl ⟨(((m / 128 : Nat) : Int), b ++ [UInt8.ofNat (m % 128 + 128)]), ⟨by simp only; omega, by simp only; omega, by simp only [Int.toNat_natCast, List.length_append, List.length_cons, List.length_nil]; omega⟩, by simp only [Int.toNat_natCast]; rw [e, List.length_cons]; omega, ?_, fun ag => ?_⟩
      · simp only [Int.toNat_natCast, List.append_assoc, List.singleton_append]
        rw [e]
      · rw [if_pos hge, hc, app_eq (by simp; omega), shr7]
        rfl
    · have e := enc_lt (n := m) (by omega)
      refine .inr fun ag => ?_
      rw [e] at h3
      simp only [List.length_cons, List.length_nil] at h3
      rw [if_neg hge, e]
      show (app 140737488355328 b [toU8 (m : Int)]).bind (fun t => some t) = _
      rw [app_eq (by simp; omega)]
      have : toU8 (m : Int) = UInt8.ofNat m := by unfold toU8; congr 1; omega
      rw [this]
      rfl) 100 ((held2 n : Int), b) ⟨by simp only; omega, by have := held2_le n; simp only; omega, by have := enc_len9 (held2_le n); simp only [Int.toNat_natCast]; omega⟩ (by have := enc_len9 (held2_le n); simp only [Int.toNat_natCast]; omega)
  simpa [pack_Num.l_45] using this
theorem and127 (c : UInt8) : ((c &&& 127).toNat : Int) = ((c.toNat % 128 : Nat) : Int) := by
  rw [UInt8.toNat_and, show (127 : UInt8).toNat = 2 ^ 7 - 1 from rfl, Nat.and_two_pow_sub_one_eq_mod]
theorem pow7 (i : Nat) : (128 : Nat) ^ i = 2 ^ (7 * i) := by rw [Nat.pow_mul]
theorem shl7 (c i : Nat) (hi : i ≤ 8) (h : 2 ^ (7 * i) * c < 2 ^ 63) : shl .i64 (c : Int) (w64 (7 * (i : Int))) = ((2 ^ (7 * i) * c : Nat) : Int) := by
  unfold shl
  have e : w64 (7 * (i : Int)) = ((7 * i : Nat) : Int) := by rw [w64_id (by omega)]; omega
  rw [e, Int.toNat_natCast, show IntKind.i64.bits = 64 from rfl, Nat.min_eq_left (by omega)]
  have e2 : (c : Int) * 2 ^ (7 * i) = ((2 ^ (7 * i) * c : Nat) : Int) := by rw [Int.natCast_mul, Int.natCast_pow]; exact Int.mul_comm _ _
  rw [e2]
  exact w64_id (by omega)
theorem rnum2_eq {m : Nat} (hm : m ≤ 4611686018427387904) (rest : List UInt8) (hr : rest.length ≤ 100000000) (bad : Bool) (top : Int) :
    pack_Reader_Num.f 100 (enc m ++ rest) bad top = some (if m ≤ held2 top then ((m : Int), rest, bad) else (0, [], true)) := by
  have hel := enc_len9 hm
  have hbl : (enc m ++ rest).length ≤ 100000009 := by rw [List.length_append]; omega
  generalize hb : enc m ++ rest = b at hbl ⊢
  unfold pack_Reader_Num.f
  have ex4 : pack_Reader_Num.j_4 100 b bad = some (0, [], true) := rfl
  refine iter_fun (f := fun again v => pack_Reader_Num.b_15 100 b top bad (fun v => pack_Reader_Num.j_4 100 b bad) again v.1 v.2) (fun v : Int × Int => (9 - v.2).toNat) (fun v => ∃ i : Nat, v.2 = i ∧ i ≤ 8 ∧ v.1 = ((m % 128 ^ i : Nat) : Int) ∧ b.drop i = enc (m / 128 ^ i) ++ rest ∧ (0 < i → 0 < m / 128 ^ i)) (fun _ => some (if m ≤ held2 top then ((m : Int), rest, bad) else (0, [], true))) (fun v hv => ?_) 100 (0, 0) ⟨0, rfl, by omega, by simp [Nat.mod_one], by simpa using hb.symm, by omega⟩ (by simp)
  obtain ⟨x, iz⟩ := v
  obtain ⟨i, h1, h2, h3, h4, h5⟩ := hv
  simp only at h1 h3 ⊢
  subst h1 h3
  generalize hq : m / 128 ^ i = q at h4 h5
  have hmq : m % 128 ^ i + 128 ^ i * q = m := by rw [← hq]; exact Nat.mod_add_div _ _
  have hlt : m % 128 ^ i < 2 ^ (7 * i) := by rw [← pow7]; exact Nat.mod_lt _ (Nat.pow_pos (by decide))
  obtain ⟨c, tl, hce, hc⟩ : ∃ c tl, enc q = c :: tl ∧ c.toNat = (if 128 ≤ q then q % 128 + 128 else q) := by
    by_cases hge : 128 ≤ q
    · exact ⟨_, _, enc_ge hge, by rw [if_pos hge, UInt8.toNat_ofNat']; omega⟩
    · exact ⟨_, _, enc_lt (by omega), by rw [if_neg hge, UInt8.toNat_ofNat']; omega⟩
  rw [hce] at h4
  have hlen : i < b.length := by
    have := congrArg List.length h4
    rw [List.length_drop] at this
    simp at this
    omega
  have hget : b[i]? = some c := by
    have := congrArg (fun l => l[0]?) h4
    simpa [List.getElem?_drop] using this
  have hdrop : b.drop (i + 1) = tl ++ rest := by
    have := congrArg List.tail h4
    simpa [List.tail_drop] using this
  have hix : ix b (i : Int) = some c := ix_eq (by omega) (by simpa using hget)
  have c0 : (decide ((i : Int) > 0) = true → ¬ (c.toNat : Int) = ((0 : UInt8).toNat : Int)) := fun h => by
    have hi := of_decide_eq_true h
    have hq0 := h5 (by omega)
    rw [hc, show (0 : UInt8).toNat = 0 from rfl]
    split <;> omega
  have go : ∀ ag, pack_Reader_Num.b_15 100 b top bad (fun v => pack_Reader_Num.j_4 100 b bad) ag ((m % 128 ^ i : Nat) : Int) (i : Int) = pack_Reader_Num.j_29 100 (fun v => pack_Reader_Num.j_4 100 b bad) i c ag ((m % 128 ^ i : Nat) : Int) top b bad false := fun ag => by
    unfold pack_Reader_Num.b_15
    rw [if_pos (by omega), hix]
    simp only [Option.bind_some]
    rw [if_neg (by omega)]
    split
    · rename_i hz
      have : decide ((i : Int) > 0) = false := by
        cases hd : decide ((i : Int) > 0) with
        | false => rfl
        | true => exact absurd hz (c0 hd)
      rw [this]
    · rfl
  have hmust : (0 : Int) ≤ w64 (7 * (i : Int)) := by rw [w64_id (by omega)]; omega
  by_cases hge : 128 ≤ q
  · rw [if_pos hge] at hc
    have hi8 : i + 1 ≤ 8 := by
      rcases Nat.lt_or_ge (i + 1) 9 with h | h
      · omega
      · have hi : i = 8 := by omega
        subst hi
        have : (128 : Nat) ^ 8 = 72057594037927936 := by decide
        rw [this] at hmq
        omega
    have hcm : c.toNat % 128 = q % 128 := by rw [hc]; omega
    have hsum : m % 128 ^ i + 2 ^ (7 * i) * (q % 128) = m % 128 ^ (i + 1) := by
      rw [← pow7, Nat.pow_succ, Nat.mod_mul, hq]
    have hmod : m % 128 ^ (i + 1) ≤ m := Nat.mod_le _ _
    refine .inl ⟨(((m % 128 ^ (i + 1) : Nat) : Int), ((i + 1 : Nat) : Int)), ⟨i + 1, rfl, hi8, rfl, ?_, fun _ => ?_⟩, by simp only; omega, trivial, fun ag => ?_⟩
    · rw [hdrop, Nat.pow_succ, ← Nat.div_div_eq_div_mul, hq]
      rw [enc_ge hge] at hce
      injection hce with _ htl
      rw [htl]
    · rw [Nat.pow_succ, ← Nat.div_div_eq_div_mul, hq]; omega
    · rw [go]
      unfold pack_Reader_Num.j_29
      rw [if_neg (by simp), must_eq hmust]
      simp only [Option.bind_some]
      rw [if_pos (by rw [hc, show (128 : UInt8).toNat = 128 from rfl]; omega), and127, hcm, shl7 _ _ (by omega) (by omega), bor_disj _ _ _ hlt (by omega), hsum, w64_succ (by omega) (by omega)]
      rfl
  · rw [if_neg hge] at hc
    have hcm : c.toNat % 128 = q := by rw [hc]; omega
    have hsum : m % 128 ^ i + 2 ^ (7 * i) * q = m := by rw [← pow7]; exact hmq
    refine .inr fun ag => ?_
    rw [go]
    unfold pack_Reader_Num.j_29
    rw [if_neg (by simp), must_eq hmust]
    simp only [Option.bind_some]
    rw [if_neg (by rw [hc, show (128 : UInt8).toNat = 128 from rfl]; omega), held_eq]
    simp only [Option.bind_some]
    rw [and127, hcm, shl7 _ _ (by omega) (by omega), bor_disj _ _ _ hlt (by omega), hsum]
    have htl : tl = [] := by
      rw [enc_lt (by omega)] at hce
      injection hce with _ h
      exact h.symm
    rw [htl, List.nil_append] at hdrop
    by_cases hle : m ≤ held2 top
    · rw [if_neg (by omega), if_pos hle, w64_succ (by omega) (by omega), cut_eq ⟨by omega, by omega, by omega⟩]
      have e : (b.take (b.length : Int).toNat).drop ((i : Int) + 1).toNat = rest := by
        rw [Int.toNat_natCast, List.take_length, show ((i : Int) + 1).toNat = i + 1 by omega, hdrop]
      rw [e]
      rfl
    · rw [if_pos (by omega), if_neg hle]
      exact ex4
theorem held2_nat (n : Nat) (h : n ≤ 4611686018427387904) : held2 (n : Int) = n := by unfold held2; omega
theorem bytes2_eq {b x : List UInt8} (hb : b.length ≤ 100000000) (hx : x.length ≤ 100000000) : pack_Bytes.f 100 b x = some (b ++ enc x.length ++ x) := by
  unfold pack_Bytes.f
  rw [num2_eq hb]
  simp only [Option.bind_some]
  have e : held2 (x.length : Int) = x.length := held2_nat _ (by omega)
  have hl := enc_len9 (n := x.length) (by omega)
  rw [e, app_eq (by simp; omega)]
  rfl
theorem read2_eq {b : List UInt8} (hb : b.length ≤ 140737488355328) : pack_Read.f b = some (b, false) := by
  unfold pack_Read.f
  rw [clone_eq hb]; rfl
theorem rbytes2_eq {x rest : List UInt8} (hx : x.length ≤ 10000000) (hr : rest.length ≤ 10000000) (bad : Bool) (top : Int) (ht : (x.length : Int) ≤ top) :
    pack_Reader_Bytes.f 100 (enc x.length ++ (x ++ rest)) bad top = some (x, rest, bad) := by
  unfold pack_Reader_Bytes.f
  have hh : x.length ≤ held2 top := by unfold held2; omega
  rw [rnum2_eq (by omega) _ (by simp; omega), if_pos hh]
  simp only [Option.bind_some]
  rw [if_neg (by simp; omega), cut_eq ⟨by omega, by omega, by simp; omega⟩]
  have e1 : ((x ++ rest).take (x.length : Int).toNat).drop (0 : Int).toNat = x := by simp
  simp only [Option.bind_some, e1]
  rw [clone_eq (by omega)]
  simp only [Option.bind_some]
  rw [cut_eq ⟨by omega, by simp; omega, by omega⟩]
  have e2 : ((x ++ rest).take ((x ++ rest).length : Int).toNat).drop (x.length : Int).toNat = rest := by rw [Int.toNat_natCast, Int.toNat_natCast, List.take_length, List.drop_left]
  rw [e2]
  rfl
theorem stops2_j60 : hocketlaw2_PackStops.j_60 100 false = some () := by decide +kernel
theorem hocketlaw2_PackStops.pure (raw : List UInt8) (n : Int) {o0 o1 : Prop} (_ : o0) (_ : o1) : ∃ K r, hocketlaw2_PackStops.f K raw n = some r := by
  refine ⟨100, (), ?_⟩
  unfold hocketlaw2_PackStops.f
  have hb : band .i64 n 65535 = n % 65536 := band_mask n 16 (by decide)
  rw [hb, awake2_100]
  obtain ⟨m, hm⟩ : ∃ m : Nat, n % 65536 = m := ⟨(n % 65536).toNat, by omega⟩
  have hm2 : m < 65536 := by omega
  rw [hm]
  clear hb hm
  by_cases h : (raw.length : Int) > 200
  · rw [if_pos h]; rfl
  rw [if_neg h]
  have hl9 := enc_len9 (n := raw.length) (by omega)
  have hm9 := enc_len9 (n := m) (by omega)
  have hheld : held2 (m : Int) = m := held2_nat _ (by omega)
  rw [bytes2_eq (b := []) (by simp) (by omega)]
  simp only [Option.bind_some, List.nil_append]
  rw [num2_eq (by simp; omega), hheld]
  simp only [Option.bind_some]
  rw [app_eq (by simp; omega)]
  simp only [Option.bind_some]
  rw [read2_eq (by simp; omega)]
  simp only [Option.bind_some]
  have e : enc raw.length ++ raw ++ enc m ++ (enc raw.length ++ raw) = enc raw.length ++ (raw ++ (enc m ++ (enc raw.length ++ (raw ++ [])))) := by simp
  rw [e, rbytes2_eq (by omega) (by simp; omega) _ _ (by omega)]
  simp only [Option.bind_some, if_true]
  unfold pack_Reader_Ok.f
  simp only [Option.bind_some, Bool.not_false, if_true]
  rw [rnum2_eq (by omega) _ (by simp; omega), hheld, if_pos (Nat.le_refl _)]
  simp only [Option.bind_some, if_true]
  rw [rbytes2_eq (by omega) (by simp) _ _ (by omega)]
  simp only [Option.bind_some, if_true]
  unfold pack_Reader_End.f
  simp [stops2_j60]
/-! ### there and back -/
theorem mnmx (n : Int) : mn (mx n 0) 4611686018427387904 = (held2 n : Int) := by rw [mx_eq, mn_eq]; unfold held2; omega
def encs (l : List Int) : List UInt8 := l.flatMap fun n => enc n.toNat
theorem encs_len (l : List Int) (h : ∀ n ∈ l, 0 ≤ n ∧ n ≤ 4611686018427387904) : (encs l).length ≤ 9 * l.length := by
  induction l with
  | nil => simp [encs]
  | cons n l ih =>
    have h1 := h n (List.mem_cons_self ..)
    have := ih (fun x hx => h x (List.mem_cons_of_mem _ hx))
    have h9 := enc_len9 (n := n.toNat) (by omega)
    simp only [encs, List.flatMap_cons, List.length_append, List.length_cons] at this ⊢
    omega
theorem encs_append (l r : List Int) : encs (l ++ r) = encs l ++ encs r := by simp [encs]
theorem back2_j80 (t50 : List UInt8 × List UInt8 × Bool) (x : List UInt8) (b : List UInt8) (h : t50 = (x, [], false)) : hocketlaw2_PackBack.j_80 100 t50 x b b false = some () := by
  subst h
  unfold hocketlaw2_PackBack.j_80 pack_Reader_End.f
  simp [awake2_100]
theorem back2_j49 (raw : List UInt8) (hraw : raw.length ≤ 200) (want : List Int) (hw : ∀ n ∈ want, 0 ≤ n ∧ n ≤ 4611686018427387904) (hl : want.length ≤ 12) :
    hocketlaw2_PackBack.j_49 100 raw (encs want ++ enc raw.length ++ raw) want (encs want) (enc raw.length ++ raw) false = some () := by
  unfold hocketlaw2_PackBack.j_49
  have hel := encs_len want hw
  have e0 : enc raw.length ++ raw = enc raw.length ++ (raw ++ []) := by simp
  have hl9 := enc_len9 (n := raw.length) (by omega)
  conv => lhs; arg 1; rw [e0]
  rw [rbytes2_eq (by omega) (by simp) _ _ (by omega)]
  simp only [Option.bind_some]
  rw [bytes2_eq (by omega) (by omega)]
  simp only [Option.bind_some]
  rw [read2_eq (by simp; omega)]
  simp only [Option.bind_some]
  cases want with
  | nil => rw [if_neg (by simp)]; exact back2_j80 _ _ _ rfl
  | cons n l =>
    have hn := hw n (List.mem_cons_self ..)
    rw [if_pos (by simp), ix_eq (x := n) (by omega) (by simp)]
    simp only [Option.bind_some]
    by_cases hp : n > 0
    · rw [if_pos hp]
      have e1 : encs (n :: l) ++ enc raw.length ++ raw = enc n.toNat ++ (encs l ++ (enc raw.length ++ raw)) := by simp [encs]
      have hel2 := encs_len l (fun x hx => hw x (List.mem_cons_of_mem _ hx))
      simp only [List.length_cons] at hl
      have hnum : pack_Reader_Num.f 100 (encs (n :: l) ++ enc raw.length ++ raw) false (w64 (n - 1)) = some (0, [], true) := by
        have hnot : ¬ n.toNat ≤ held2 (w64 (n - 1)) := by rw [w64_id (by omega)]; unfold held2; omega
        rw [e1, rnum2_eq (by omega) _ (by simp; omega), if_neg hnot]
      rw [hnum]
      simp only [Option.bind_some, if_true]
      unfold pack_Reader_Ok.f
      simp only [Option.bind_some, Bool.not_true]
      exact back2_j80 _ _ _ rfl
    · rw [if_neg hp]; exact back2_j80 _ _ _ rfl
theorem back2_l132 (raw : List UInt8) (hraw : raw.length ≤ 200) (want : List Int) (hw : ∀ n ∈ want, 0 ≤ n ∧ n ≤ 4611686018427387904) (hl : want.length ≤ 12) :
    ∃ r, hocketlaw2_PackBack.l_132 100 want (fun v => hocketlaw2_PackBack.j_49 100 raw (encs want ++ enc raw.length ++ raw) want v.1 v.2.1 v.2.2) 100 ([], 0, encs want ++ enc raw.length ++ raw, false) = some r := by
  obtain ⟨r, _, hr⟩ := iter_inv (f := fun again v => hocketlaw2_PackBack.b_132 100 want (fun v => hocketlaw2_PackBack.j_49 100 raw (encs want ++ enc raw.length ++ raw) want v.1 v.2.1 v.2.2) again v.1 v.2.1 v.2.2.1 v.2.2.2) (fun v : List UInt8 × Int × List UInt8 × Bool => (12 - v.2.1).toNat) (fun v => ∃ i : Nat, v.2.1 = i ∧ i ≤ want.length ∧ v.1 = encs (want.take i) ∧ v.2.2.1 = encs (want.drop i) ++ (enc raw.length ++ raw) ∧ v.2.2.2 = false) (fun _ => True) (fun v hv => by
    obtain ⟨a, iz, b, bad⟩ := v
    obtain ⟨i, h1, h2, h3, h4, h5⟩ := hv
    simp only at h1 h3 h4 h5 ⊢
    subst h1 h3 h4 h5
    unfold hocketlaw2_PackBack.b_132
    have hl9 := enc_len9 (n := raw.length) (by omega)
    by_cases hlt : (i : Int) < (want.length : Int)
    · have hi : i < want.length := by omega
      have hn := hw _ (List.getElem_mem hi)
      have htk : want.take (i + 1) = want.take i ++ [want[i]] := (List.take_append_getElem hi).symm
      have hel := encs_len (want.drop (i + 1)) (fun x hx => hw x (List.mem_of_mem_drop hx))
      have hel2 := encs_len (want.take i) (fun x hx => hw x (List.mem_of_mem_take hx))
      rw [List.length_drop] at hel
      rw [List.length_take] at hel2
      have hh : held2 want[i] = want[i].toNat := by unfold held2; omega
      refine .inl ⟨(encs (want.take (i + 1)), ((i + 1 : Nat) : Int), encs (want.drop (i + 1)) ++ (enc raw.length ++ raw), false), ⟨i + 1, rfl, by omega, rfl, rfl, rfl⟩, by simp only; omega, fun ag => ?_⟩
      rw [if_pos hlt, ix_get (by omega) (by simpa using hi)]
      simp only [Option.bind_some, Int.toNat_natCast]
      have e1 : encs (want.drop i) ++ (enc raw.length ++ raw) = enc want[i].toNat ++ (encs (want.drop (i + 1)) ++ (enc raw.length ++ raw)) := by
        rw [List.drop_eq_getElem_cons hi]
        show List.flatMap _ (_ :: _) ++ _ = _
        rw [List.flatMap_cons, List.append_assoc]
        rfl
      rw [e1, rnum2_eq (by omega) _ (by simp; omega), if_pos (by omega)]
      simp only [Option.bind_some]
      rw [if_pos (by omega), num2_eq (by omega)]
      have e2 : held2 ((want[i].toNat : Nat) : Int) = want[i].toNat := held2_nat _ (by omega)
      simp only [Option.bind_some]
      rw [e2, w64_succ (by omega) (by omega), htk, encs_append]
      simp [encs]
    · have hi : i = want.length := by omega
      refine .inr ⟨(), trivial, fun ag => ?_⟩
      rw [if_neg hlt, hi, List.take_length, List.drop_length]
      exact back2_j49 raw hraw want hw hl) 100 ([], 0, encs want ++ enc raw.length ++ raw, false) ⟨0, rfl, by omega, by simp [encs], by simp, rfl⟩ (by simp)
  exact ⟨r, hr⟩
theorem back2_j20 (raw : List UInt8) (hraw : raw.length ≤ 200) (want : List Int) (hw : ∀ n ∈ want, 0 ≤ n ∧ n ≤ 4611686018427387904) (hl : want.length ≤ 12) :
    ∃ r, hocketlaw2_PackBack.j_20 100 raw (encs want) want = some r := by
  unfold hocketlaw2_PackBack.j_20
  have hel := encs_len want hw
  have hl9 := enc_len9 (n := raw.length) (by omega)
  rw [bytes2_eq (by omega) (by omega)]
  simp only [Option.bind_some]
  rw [read2_eq (by simp; omega)]
  exact back2_l132 raw hraw want hw hl
theorem hocketlaw2_PackBack.pure (nums : List Int) (raw : List UInt8) (at_ : Int) (h0 : nums.length ≤ 140737488351232 ∧ ∀ x ∈ nums, i64ok x) {o1 o2 : Prop} (_ : o1) (_ : o2) : ∃ K r, hocketlaw2_PackBack.f K nums raw at_ = some r := by
  refine ⟨100, ?_⟩
  unfold hocketlaw2_PackBack.f
  by_cases h : (raw.length : Int) > 200
  · rw [if_pos h, awake2_100]; exact ⟨(), rfl⟩
  rw [if_neg h]
  have hraw : raw.length ≤ 200 := by omega
  obtain ⟨hl, -⟩ := h0
  obtain ⟨r, _, hr⟩ := iter_inv (f := fun again v => hocketlaw2_PackBack.b_175 100 nums (fun v => hocketlaw2_PackBack.j_20 100 raw v.1 v.2) again v.1 v.2.1 v.2.2) (fun v : List UInt8 × List Int × Int => (12 - v.2.2).toNat) (fun v => 0 ≤ v.2.2 ∧ v.2.2 ≤ nums.length ∧ v.2.2 ≤ 12 ∧ (v.2.1.length : Int) = v.2.2 ∧ (∀ n ∈ v.2.1, 0 ≤ n ∧ n ≤ 4611686018427387904) ∧ v.1 = encs v.2.1) (fun _ => True) (fun v hv => by
    obtain ⟨b, want, i⟩ := v
    obtain ⟨h1, h2, h3, h4, h5, h6⟩ := hv
    simp only at h1 h2 h3 h4 h5 h6 ⊢
    subst h6
    have hel := encs_len want h5
    have done : ∃ r : Unit, True ∧ ∀ ag, hocketlaw2_PackBack.j_184 100 nums i want (encs want) ag (fun v => hocketlaw2_PackBack.j_20 100 raw v.1 v.2) false = some r := by
      obtain ⟨r, hr⟩ := back2_j20 raw hraw want h5 (by omega)
      refine ⟨r, trivial, fun ag => ?_⟩
      unfold hocketlaw2_PackBack.j_184
      rw [if_neg (by simp)]
      exact hr
    unfold hocketlaw2_PackBack.b_175
    by_cases hlt : i < (nums.length : Int)
    · by_cases h12 : i < 12
      · have hn := held2_le (nums[i.toNat]'(by omega))
        refine .inl ⟨(encs (want ++ [(held2 (nums[i.toNat]'(by omega)) : Int)]), want ++ [(held2 (nums[i.toNat]'(by omega)) : Int)], i + 1), ⟨by simp only; omega, by simp only; omega, by simp only; omega, by simp; omega, fun n hn2 => ?_, rfl⟩, by simp only; omega, fun ag => ?_⟩
        · rcases List.mem_append.1 hn2 with h | h
          · exact h5 n h
          · obtain rfl : n = _ := by simpa using h
            omega
        · rw [if_pos hlt, decide_eq_true h12]
          unfold hocketlaw2_PackBack.j_184
          rw [if_pos rfl, ix_get h1 (by omega)]
          simp only [Option.bind_some]
          rw [mnmx, app_eq (by simp; omega)]
          simp only [Option.bind_some]
          rw [num2_eq (by omega), w64_succ h1 (by omega), encs_append]
          simp [encs]
      · obtain ⟨r, _, hr⟩ := done
        exact .inr ⟨r, trivial, fun ag => by rw [if_pos hlt, decide_eq_false h12]; exact hr ag⟩
    · obtain ⟨r, _, hr⟩ := done
      exact .inr ⟨r, trivial, fun ag => by rw [if_neg hlt]; exact hr ag⟩) 100 ([], [], 0) ⟨by simp, by simp, by simp, by simp, by simp, by simp [encs]⟩ (by simp)
  exact ⟨r, hr⟩
end Go.Gp
