/- What the statements say, of the plain functions. -/
import Derived.Test.YtabedbggldnkhaaDefs
import Derived.Test.YtabedbggldnkhaaLe
import Derived.Test.YtabedbggldnkhaaThInts
import Derived.Test.YtabedbggldnkhaaThView
import Derived.Test.YtabedbggldnkhaaThView2
import Derived.Test.YtabedbggldnkhaaThMsg
import Derived.Test.YtabedbggldnkhaaThGath
/- Layer 18: who comes together. -/
namespace Go.Gp
open Go
theorem awake18 : hocketlaw18_awake.f 100 = some () := by decide +kernel
theorem choose_no {l : List api_Msg} (hl : l.length < 90) (x : Int) (h : ∀ m ∈ l, m.Has = false) : ∃ r, view_Choose.f 100 l x = some r ∧ r.2.2.2 = false := by
  obtain ⟨r, h1, h2⟩ := choose_eq (K := 100) (l := l) (by omega) (by omega) x
  refine ⟨r, h1, ?_⟩
  rcases h2 with ⟨h2, _⟩ | ⟨b, h2, _⟩
  · rw [h2]
  · have := h b (firstsF_sub _ _ _ h2.1)
    rw [h2.2.1.1] at this
    cases this
theorem nodeN (n : Int) : ∃ k : Nat, w64 ((Int.tmod (band .i64 n 255) 7) + 1) = (k : Int) ∧ 1 ≤ k ∧ k ≤ 7 := by
  have hb : band .i64 n 255 = n % 256 := band_m n 255 8 rfl (by decide)
  rw [hb]
  have ht := tmod_nn (x := n % 256) (y := 7) (by omega) (by omega)
  exact ⟨((n % 256).tmod 7 + 1).toNat, by rw [w64_id (by omega)]; omega, by omega, by omega⟩
theorem take_v (b : Bool) (g : gath_Gather) : (⟨(b, tG g).2.1, (b, tG g).2.2.1, (b, tG g).2.2.2.1, (b, tG g).2.2.2.2.1, (b, tG g).2.2.2.2.2.1, (b, tG g).2.2.2.2.2.2.1, g.commit, g.is⟩ : gath_Gather) = g := rfl
theorem hocketlaw18_GathForms.pure (n id : Int) (l : List Int) {o0 o1 : Prop} (_ : o0) (_ : o1) (_h : l.length ≤ 140737488351232 ∧ ∀ x ∈ l, i64ok x) : ∃ K r, hocketlaw18_GathForms.f K n id l = some r := by
  refine ⟨100, sat_pure ?_⟩
  obtain ⟨k, hk, hk1, hk7⟩ := nodeN n
  have hb : band .i64 id 255 = id % 256 := band_m id 255 8 rfl (by decide)
  have ht := tmod_nn (x := id % 256) (y := (k : Int)) (by omega) (by omega)
  obtain ⟨q, hq⟩ : ∃ q : Nat, (id % 256).tmod (k : Int) = q := ⟨((id % 256).tmod (k : Int)).toNat, by omega⟩
  have hp7 : 2 ^ k ≤ 2 ^ 7 := Nat.pow_le_pow_right (by decide) hk7
  have hp1 : 1 ≤ 2 ^ k := Nat.one_le_two_pow
  unfold hocketlaw18_GathForms.f
  rw [hk]
  refine sat_b (rem_eq (by omega)) ?_
  rw [hb, hq]
  refine sat_b (new_eq (by omega) hk7 9 _) ?_
  have hg0 := GI.new (i := q) (n := k) (by omega) hk7 9 ⟨2, (q : Int), 0, 9, 0, 0, false, 0, 0, 0, 0, ([] : List UInt8), 0, 0, ([] : List Int), ([] : List Int), 0, (⟨0, 0, (⟨0, 0, ([] : List UInt8), ([] : List UInt8), ([] : List UInt8)⟩ : api_Cmd)⟩ : api_Entry)⟩
  have hwq : wu64 (q : Int) = q := wu_id (by omega) (by omega)
  rw [hwq, shl_bit (by omega)]
  refine sat_loop (fun v : Int × Int × gath_Gather => (30 - v.2.1).toNat) (fun v => 0 ≤ v.2.1 ∧ v.2.1 ≤ 30 ∧ ∃ c : Nat, v.1 = c ∧ GI k c v.2.2 ∧ v.2.2.v = 9 ∧ v.2.2.is = false ∧ v.2.2.ready = 0 ∧ v.2.2.commit.Members = 0 ∧ (v.2.2.l.length : Int) ≤ v.2.1 + 1 ∧ ∀ m ∈ v.2.2.l, m.Has = false) ?_ 100 _ ⟨by simp, by simp, 2 ^ q, rfl, hg0, rfl, rfl, rfl, rfl, by simp [newG], by simp [newG]⟩ (by simp only; omega)
  rintro ⟨cc, i, g⟩ ⟨h0, h1, c, hc, hg, hv, his, hrd, hcm, hl, hhas⟩ ag hag
  simp only at h0 h1 hc hg hv his hrd hcm hl hhas
  subst hc
  show Sat (hocketlaw18_GathForms.B1 100 l n _ ag (c : Int) i g) _
  unfold hocketlaw18_GathForms.B1
  have hglen := hg.len
  have fin : Sat (hocketlaw18_GathForms.J1 100 (q : Int) g) (fun _ => True) := by
    unfold hocketlaw18_GathForms.J1
    obtain ⟨r, hr1, hr2⟩ := choose_no (l := g.l) (by omega) g.n hhas
    refine sat_b (commit_no his hr1 hr2) (sat_f (by simp) ?_)
    refine sat_b (done_eq (g := g) (m := 0) (r := 0) (by decide) (by decide) hcm hrd) (sat_f (by rw [his]; simp) ?_)
    refine sat_b (ready_no (g := g) (m := 0) (r := 0) (by decide) (by decide) hcm hrd (fun h => by have := h.1; rw [his] at this; cases this)) (sat_f (by simp) ?_)
    refine sat_b (unready_eq (g := g) (m := 0) (r := 0) (by decide) (by decide) hcm hrd) (sat_t (by decide) (sat_b awake18 (sat_r trivial)))
  have out : Sat (hocketlaw18_GathForms.J2 100 l i n g ag (c : Int) (fun v => hocketlaw18_GathForms.J1 100 (q : Int) v) false) (fun _ => True) := by
    unfold hocketlaw18_GathForms.J2
    exact sat_f (by simp) fin
  refine sat_if (fun hlt => ?_) (fun _ => out)
  by_cases hi : i < 30
  · rw [decide_eq_true hi]
    unfold hocketlaw18_GathForms.J2
    obtain ⟨t, ht⟩ : ∃ t, ix l i = some t := ⟨_, ix_get h0 (by omega)⟩
    refine sat_t rfl (sat_b ht (sat_b ht ?_))
    rw [hk]
    have hb15 := band_lt t 15 4 rfl (by decide)
    have hw4 : w64 (band .i64 t 15 - 4) = band .i64 t 15 - 4 := w64_id (by omega)
    rw [hw4]
    obtain ⟨f, hf⟩ : ∃ f, band .i64 t 15 - 4 = f := ⟨_, rfl⟩
    obtain ⟨v, hvv⟩ : ∃ v, w64 (9 + (w64 (Int.tdiv (band .i64 (shr .i64 t 4) 7) 7))) = v := ⟨_, rfl⟩
    have hw1 : w64 (i + 1) = i + 1 := w64_id (by omega)
    have hc7 := hg.c7
    obtain ⟨msg, hmsg⟩ : ∃ msg : api_Msg, msg = ⟨2, f, 0, v, 0, 0, false, 0, 0, 0, 0, ([] : List UInt8), 0, 0, ([] : List Int), ([] : List Int), 0, (⟨0, 0, (⟨0, 0, ([] : List UInt8), ([] : List UInt8), ([] : List UInt8)⟩ : api_Cmd)⟩ : api_Entry)⟩ := ⟨_, rfl⟩
    rw [hf, hvv]
    have hTO : TakeOk k c g msg ↔ (0 ≤ f ∧ f < k ∧ v = 9 ∧ c.testBit f.toNat = false) := by
      rw [hmsg]
      unfold TakeOk
      simp only [his, hv, true_and]
      constructor
      · rintro ⟨a, b, c, d⟩; exact ⟨b, c, a, d⟩
      · rintro ⟨b, c, a, d⟩; exact ⟨a, b, c, d⟩
    have four : ∀ (b : Bool) (c' : Nat) (g' : gath_Gather), GI k c' g' → g'.v = 9 → g'.is = false → g'.ready = 0 → g'.commit.Members = 0 → (g'.l.length : Int) ≤ i + 2 → (∀ m ∈ g'.l, m.Has = false) → Sat (hocketlaw18_GathForms.J4 100 (b, tG g') n ag i (c' : Int)) (fun _ => True) := fun b c' g' k1 k2 k3 k4 k5 k6 k7 => by
      unfold hocketlaw18_GathForms.J4
      refine sat_b (absent_eq k1) ?_
      rw [hk, wu_id (x := (k : Int)) (by omega) (by omega), shl_bit (by omega), w64_id (by omega), show ((2 ^ k : Nat) : Int) - 1 = ((2 ^ k - 1 : Nat) : Int) by omega, bandn_eq (by omega) k1.c7]
      have hcl : compN (2 ^ k - 1) c' < 128 := compN_lt (by omega)
      have hml := memN_len hcl
      refine sat_b (membersr_small (by omega)) (sat_b (same_ints (by omega) (by omega)) (sat_t (by simp) (sat_b (all_eq k1) ?_)))
      unfold hocketlaw18_GathForms.J5
      have hz : decide (compN (2 ^ k - 1) c' = 0) = ((c' : Int) == ((2 ^ k - 1 : Nat) : Int)) := by
        have h : ∀ k : Fin 8, ∀ c : Fin 128, (c : Nat) < 2 ^ (k : Nat) → decide (compN (2 ^ (k : Nat) - 1) c = 0) = (((c : Nat) : Int) == ((2 ^ (k : Nat) - 1 : Nat) : Int)) := by decide +kernel
        exact h ⟨k, by omega⟩ ⟨c', k1.c7⟩ k1.lt
      rw [hz]
      refine sat_f (by simp) ?_
      rw [hw1]
      exact hag (_, _, g') ⟨by simp only; omega, by simp only; omega, c', rfl, k1, k2, k3, k4, k5, by simp only; omega, k7⟩ (by simp only; omega)
    have three : ∀ w : Bool, (w = true ↔ (0 ≤ f ∧ f < k ∧ v = 9 ∧ c.testBit f.toNat = false)) → Sat (hocketlaw18_GathForms.J3 100 g t t n ag i (c : Int) w) (fun _ => True) := fun w hw => by
      unfold hocketlaw18_GathForms.J3
      rw [hw4, hf, hvv, ← hmsg]
      cases w with
      | true =>
        have hyes : TakeOk k c g msg := hTO.2 (hw.1 rfl)
        refine sat_b (take_yes hg hyes) (sat_t rfl (sat_t rfl ?_))
        have hff := hw.1 rfl
        obtain ⟨p, hp⟩ : ∃ p : Nat, f = p := ⟨f.toNat, by omega⟩
        have hmf : msg.From = f := by rw [hmsg]
        rw [hp, wu_id (by omega) (by omega), or_bit hc7 (by omega)]
        have hgt := hg.take hyes (by omega)
        rw [hmf, hp, Int.toNat_natCast] at hgt
        refine four true (c ||| 2 ^ p) (takeG g c msg) hgt hv his hrd hcm ?_ ?_
        · unfold takeG; simp only [List.length_append, List.length_singleton]; omega
        · intro m hm
          unfold takeG at hm
          simp only [List.mem_append, List.mem_singleton] at hm
          rcases hm with hm | rfl
          · exact hhas m hm
          · rw [hmsg]
      | false =>
        have hno : ¬ TakeOk k c g msg := fun h => by have := hw.2 (hTO.1 h); cases this
        refine sat_b (take_no hg hno) (sat_t rfl (sat_f (by simp) ?_))
        exact four false c g hg hv his hrd hcm (by omega) hhas
    refine sat_if (fun c1 => ?_) (fun c1 => three false ⟨fun h => (by cases h), fun h => (by omega)⟩)
    refine sat_if (fun c2 => ?_) (fun c2 => three false ⟨fun h => (by cases h), fun h => (by omega)⟩)
    refine sat_if (fun c3 => ?_) (fun c3 => three false ⟨fun h => (by cases h), fun h => absurd h.2.2.1 c3⟩)
    refine three _ ?_
    obtain ⟨p, hp⟩ : ∃ p : Nat, f = p := ⟨f.toNat, by omega⟩
    have e1 : mx f 0 = (p : Int) := by rw [mx_eq]; omega
    rw [e1, wu_id (by omega) (by omega), hp, Int.toNat_natCast]
    have hbit := bit_eq hc7 (show p < 7 by omega)
    have hbd := band_lt (shr .i64 (c : Int) (p : Int)) 1 1 rfl (by decide)
    constructor
    · intro h0'
      have h0' : band .i64 (shr .i64 (c : Int) (p : Int)) 1 = 0 := by simpa using h0'
      rw [h0'] at hbit
      exact ⟨by omega, by omega, c3, by rw [← hbit]; rfl⟩
    · rintro ⟨_, _, _, h4⟩
      rw [h4] at hbit
      have : band .i64 (shr .i64 (c : Int) (p : Int)) 1 ≠ 1 := by simpa using hbit
      have : band .i64 (shr .i64 (c : Int) (p : Int)) 1 = 0 := by omega
      rw [this]; rfl
  · rw [decide_eq_false hi]
    exact out
def rmsg (i : Nat) (has : Bool) : api_Msg := ⟨2, (i : Int), 0, 8, 0, 0, has, 0, 0, 0, 0, ([] : List UInt8), 0, 0, ([] : List Int), ([] : List Int), 0, (⟨0, 0, (⟨0, 0, ([] : List UInt8), ([] : List UInt8), ([] : List UInt8)⟩ : api_Cmd)⟩ : api_Entry)⟩
def rrow (i : Nat) : List api_Msg := rmsg 0 true :: (List.range (i - 1)).map fun j : Nat => rmsg (j + 1) false
theorem rrow_succ (i : Nat) (h : 1 ≤ i) : rrow (i + 1) = rrow i ++ [rmsg i false] := by
  obtain ⟨j, rfl⟩ : ∃ j, i = j + 1 := ⟨i - 1, by omega⟩
  unfold rrow
  simp only [Nat.add_sub_cancel]
  rw [List.range_succ, List.map_append]
  rfl
theorem rrow_len (i : Nat) : (rrow i).length = i - 1 + 1 := by unfold rrow; simp
theorem rrow_choose (k : Nat) (h1 : 1 ≤ k) (h7 : k ≤ 7) : view_Choose.f 100 (rrow k) (k : Int) = some (((2 ^ k - 1 : Nat) : Int), 0, 0, true) := by
  have h : ∀ k : Fin 7, view_Choose.f 100 (rrow ((k : Nat) + 1)) (((k : Nat) + 1 : Nat) : Int) = some (((2 ^ ((k : Nat) + 1) - 1 : Nat) : Int), 0, 0, true) := by decide +kernel
  have := h ⟨k - 1, by omega⟩
  simp only [show k - 1 + 1 = k by omega] at this
  exact this
theorem full_zero {k c : Nat} (hk : k < 8) (hc : c < 128) (hlt : c < 2 ^ k) : decide (compN (2 ^ k - 1) c = 0) = ((c : Int) == ((2 ^ k - 1 : Nat) : Int)) := by
  have h : ∀ k : Fin 8, ∀ c : Fin 128, (c : Nat) < 2 ^ (k : Nat) → decide (compN (2 ^ (k : Nat) - 1) c = 0) = (((c : Nat) : Int) == ((2 ^ (k : Nat) - 1 : Nat) : Int)) := by decide +kernel
  exact h ⟨k, hk⟩ ⟨c, hc⟩ hlt
theorem want_iff {r : Nat} (hr : r < 128) {f : Int} (h0 : 0 ≤ f) (h7 : f < 7) : ((band .i64 (shr .i64 (r : Int) (wu64 (mx f 0))) 1 == 0) = true) ↔ r.testBit f.toNat = false := by
  obtain ⟨p, rfl⟩ : ∃ p : Nat, f = p := ⟨f.toNat, by omega⟩
  have e1 : mx (p : Int) 0 = (p : Int) := by rw [mx_eq]; omega
  rw [e1, wu_id (by omega) (by omega), Int.toNat_natCast]
  have hbit := bit_eq hr (show p < 7 by omega)
  have hbd := band_lt (shr .i64 (r : Int) (p : Int)) 1 1 rfl (by decide)
  constructor
  · intro h0'
    have h0' : band .i64 (shr .i64 (r : Int) (p : Int)) 1 = 0 := by simpa using h0'
    rw [h0'] at hbit
    rw [← hbit]; rfl
  · intro h4
    rw [h4] at hbit
    have : band .i64 (shr .i64 (r : Int) (p : Int)) 1 ≠ 1 := by simpa using hbit
    have : band .i64 (shr .i64 (r : Int) (p : Int)) 1 = 0 := by omega
    rw [this]; rfl
theorem hocketlaw18_GathReady.pure (n : Int) (l : List Int) {o0 : Prop} (_ : o0) (_h : l.length ≤ 140737488351232 ∧ ∀ x ∈ l, i64ok x) : ∃ K r, hocketlaw18_GathReady.f K n l = some r := by
  refine ⟨100, sat_pure ?_⟩
  obtain ⟨k, hk, hk1, hk7⟩ := nodeN n
  have hp7 : 2 ^ k ≤ 2 ^ 7 := Nat.pow_le_pow_right (by decide) hk7
  have hp1 : 1 ≤ 2 ^ k := Nat.one_le_two_pow
  have hfull : w64 ((shl .i64 1 (wu64 (k : Int))) - 1) = ((2 ^ k - 1 : Nat) : Int) := by
    rw [wu_id (by omega) (by omega), shl_bit (by omega), w64_id (by omega)]; omega
  unfold hocketlaw18_GathReady.f
  rw [hk]
  refine sat_b (new_eq (i := 0) (by omega) hk7 8 (rmsg 0 true)) ?_
  have hg0 := GI.new (i := 0) (n := k) (by omega) hk7 8 (rmsg 0 true)
  refine sat_loop (fun v : Int × gath_Gather => (8 - v.1).toNat) (fun v => ∃ i : Nat, v.1 = i ∧ 1 ≤ i ∧ i ≤ k ∧ GI k (2 ^ i - 1) v.2 ∧ v.2.v = 8 ∧ v.2.id = 0 ∧ v.2.is = false ∧ v.2.ready = 0 ∧ v.2.commit.Members = 0 ∧ v.2.l = rrow i) ?_ 100 _ ⟨1, rfl, by omega, by omega, hg0, rfl, rfl, rfl, rfl, rfl, rfl⟩ (by simp only; omega)
  rintro ⟨ii, g⟩ ⟨i, hi, hi1, hik, hg, hv, hid, his, hrd, hcm, hl⟩ ag hag
  simp only at hi hg hv hid his hrd hcm hl
  subst hi
  show Sat (hocketlaw18_GathReady.B2 100 n _ ag (i : Int) g) _
  unfold hocketlaw18_GathReady.B2
  rw [hk]
  refine sat_if (fun hlt => ?_) (fun hge => ?_)
  · refine sat_b (ready_no (g := g) (m := 0) (r := 0) (by decide) (by decide) hcm hrd (fun h => by have := h.1; rw [his] at this; cases this)) (sat_f (by simp) ?_)
    have hyes : TakeOk k (2 ^ i - 1) g (rmsg i false) := ⟨his, rfl, hv.symm, Int.natCast_nonneg i, by show (i : Int) < k; omega, by
      show (2 ^ i - 1).testBit (i : Int).toNat = false
      rw [Int.toNat_natCast, Nat.testBit_two_pow_sub_one]; simp⟩
    have hlen : g.l.length < 89 := by rw [hl, rrow_len]; omega
    refine sat_b (take_yes hg hyes) ?_
    unfold hocketlaw18_GathReady.J8
    refine sat_f (by simp) ?_
    have hw1 : w64 ((i : Int) + 1) = ((i + 1 : Nat) : Int) := by rw [w64_succ (by omega) (by omega)]; simp
    rw [hw1]
    have hgt := hg.take hyes hlen
    have hor : (2 ^ i - 1) ||| 2 ^ (rmsg i false).From.toNat = 2 ^ (i + 1) - 1 := by
      show (2 ^ i - 1) ||| 2 ^ (i : Int).toNat = _
      rw [Int.toNat_natCast]
      have h : ∀ i : Fin 8, (2 ^ (i : Nat) - 1) ||| 2 ^ (i : Nat) = 2 ^ ((i : Nat) + 1) - 1 := by decide
      exact h ⟨i, by omega⟩
    rw [hor] at hgt
    refine hag (_, takeG g (2 ^ i - 1) (rmsg i false)) ⟨i + 1, rfl, by omega, by omega, hgt, hv, hid, his, hrd, hcm, ?_⟩ (by simp only; omega)
    rw [rrow_succ i hi1, ← hl]
    rfl
  · have : i = k := by omega
    subst this
    show Sat (hocketlaw18_GathReady.J1 100 n l g) _
    unfold hocketlaw18_GathReady.J1
    have hch : view_Choose.f 100 g.l g.n = some (((2 ^ i - 1 : Nat) : Int), 0, 0, true) := by rw [hl, hg.hn]; exact rrow_choose i hk1 hk7
    refine sat_b (commit_yes his hch rfl) (sat_t rfl ?_)
    rw [hk, hfull]
    refine sat_t rfl ?_
    unfold hocketlaw18_GathReady.J2
    refine sat_f (by simp [cmsg]) ?_
    refine sat_loop (fun v : Int × Int × gath_Gather => (30 - v.2.1).toNat) (fun v => 0 ≤ v.2.1 ∧ v.2.1 ≤ 30 ∧ ∃ r : Nat, v.1 = r ∧ r < 2 ^ i ∧ v.2.2.is = true ∧ v.2.2.ready = r ∧ v.2.2.commit.Members = ((2 ^ i - 1 : Nat) : Int)) ?_ 100 _ ⟨by simp, by simp, 0, rfl, by omega, rfl, hrd, rfl⟩ (by simp only; omega)
    rintro ⟨rr, j, g2⟩ ⟨h0, h1, r, hr, hr7, his2, hrd2, hcm2⟩ ag2 hag2
    simp only at h0 h1 hr his2 hrd2 hcm2
    subst hr
    show Sat (hocketlaw18_GathReady.B1 100 l n _ _ ag2 (r : Int) j g2) _
    unfold hocketlaw18_GathReady.B1
    have fin : Sat (hocketlaw18_GathReady.J3 100) (fun _ => True) := by
      unfold hocketlaw18_GathReady.J3
      exact sat_b awake18 (sat_r trivial)
    refine sat_if (fun hlt => ?_) (fun _ => ?_)
    · by_cases hj : j < 30
      · rw [decide_eq_true hj]
        unfold hocketlaw18_GathReady.J4
        obtain ⟨t, ht⟩ : ∃ t, ix l j = some t := ⟨_, ix_get h0 (by omega)⟩
        refine sat_t rfl (sat_b ht ?_)
        rw [hk]
        have hb15 := band_lt t 15 4 rfl (by decide)
        have hw4 : w64 (band .i64 t 15 - 4) = band .i64 t 15 - 4 := w64_id (by omega)
        rw [hw4]
        obtain ⟨f, hf⟩ : ∃ f, band .i64 t 15 - 4 = f := ⟨_, rfl⟩
        rw [hf]
        have hw1 : w64 (j + 1) = j + 1 := w64_id (by omega)
        have hm128 : 2 ^ i - 1 < 128 := by omega
        have hr128 : r < 128 := by omega
        have hRO : ReadyOk (2 ^ i - 1) r g2 f ↔ (0 ≤ f ∧ f < i ∧ r.testBit f.toNat = false) := by
          unfold ReadyOk
          rw [Nat.testBit_two_pow_sub_one]
          simp only [his2, true_and, decide_eq_true_eq]
          constructor
          · rintro ⟨a, b, c, d⟩; exact ⟨a, by omega, d⟩
          · rintro ⟨a, b, c⟩; exact ⟨a, by omega, by omega, c⟩
        have six : ∀ (b : Bool) (r' : Nat) (g' : gath_Gather) (cg : gath_Gather), cg.commit.Members = ((2 ^ i - 1 : Nat) : Int) → r' < 2 ^ i → g'.is = true → g'.ready = r' → g'.commit.Members = ((2 ^ i - 1 : Nat) : Int) → ∀ x y, x.Members = ((2 ^ i - 1 : Nat) : Int) → Sat (hocketlaw18_GathReady.J6 100 (b, tG g') (x, y, tG cg) ag2 j (r' : Int)) (fun _ => True) := fun b r' g' cg _ k1 k2 k3 k4 x y hx => by
          unfold hocketlaw18_GathReady.J6
          refine sat_b (done_eq hm128 (by omega) k4 k3) ?_
          rw [k2, Bool.true_and, full_zero (by omega) (by omega) k1]
          dsimp only
          rw [hx]
          refine sat_t rfl (sat_b (unready_eq hm128 (by omega) k4 k3) ?_)
          rw [bandn_eq hm128 (by omega)]
          have hcl : compN (2 ^ i - 1) r' < 128 := compN_lt hm128
          have hml := memN_len hcl
          refine sat_b (membersr_small (by omega)) (sat_b (same_ints (by omega) (by omega)) ?_)
          unfold hocketlaw18_GathReady.J7
          refine sat_f (by simp) ?_
          rw [hw1]
          exact hag2 (_, _, g') ⟨by simp only; omega, by simp only; omega, r', rfl, k1, k2, k3, k4⟩ (by simp only; omega)
        have five : ∀ w : Bool, (w = true ↔ (0 ≤ f ∧ f < i ∧ r.testBit f.toNat = false)) → ∀ (cg : gath_Gather) x y, cg.commit.Members = ((2 ^ i - 1 : Nat) : Int) → x.Members = ((2 ^ i - 1 : Nat) : Int) → Sat (hocketlaw18_GathReady.J5 100 g2 t (x, y, tG cg) ag2 j (r : Int) w) (fun _ => True) := fun w hw cg x y hcg hx => by
          unfold hocketlaw18_GathReady.J5
          rw [hw4, hf]
          cases w with
          | true =>
            have hyes := hRO.2 (hw.1 rfl)
            refine sat_b (ready_yes hm128 hr128 hcm2 hrd2 hyes) (sat_t rfl (sat_t rfl ?_))
            have hff := hw.1 rfl
            obtain ⟨p, hp⟩ : ∃ p : Nat, f = p := ⟨f.toNat, by omega⟩
            rw [hp, wu_id (by omega) (by omega), or_bit hr128 (by omega)]
            refine six true (r ||| 2 ^ p) (readyG g2 r p) cg hcg (or_lt hr7 (by omega)) his2 ?_ hcm2 x y hx
            unfold readyG
            rw [Int.toNat_natCast]
          | false =>
            have hno : ¬ ReadyOk (2 ^ i - 1) r g2 f := fun h => by have := hw.2 (hRO.1 h); cases this
            refine sat_b (ready_no hm128 hr128 hcm2 hrd2 hno) (sat_t rfl (sat_f (by simp) ?_))
            exact six false r g2 cg hcg hr7 his2 hrd2 hcm2 x y hx
        refine sat_if (fun c1 => ?_) (fun c1 => five false ⟨fun h => (by cases h), fun h => (by omega)⟩ _ _ _ rfl rfl)
        refine sat_if (fun c2 => ?_) (fun c2 => five false ⟨fun h => (by cases h), fun h => (by omega)⟩ _ _ _ rfl rfl)
        refine five _ ?_ _ _ _ rfl rfl
        rw [want_iff hr128 (by omega) (by omega)]
        exact ⟨fun h => ⟨by omega, by omega, h⟩, fun h => h.2.2⟩
      · rw [decide_eq_false hj]
        unfold hocketlaw18_GathReady.J4
        exact sat_f (by simp) fin
    · unfold hocketlaw18_GathReady.J4
      exact sat_f (by simp) fin
end Go.Gp
