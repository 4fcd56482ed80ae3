/- What the statements say, of the plain functions. -/
import Derived.Test.YtabedbggldnkhaaDefs
import Derived.Test.YtabedbggldnkhaaLe
import Derived.Test.YtabedbggldnkhaaThInts
/- Layer 14: views. -/
namespace Go.Gp
open Go
theorem awake14 : hocketlaw14_awake.f 100 = some () := by decide +kernel
theorem hocketlaw14_ViewForms.pure (which : Int) {o0 : Prop} (_ : o0) : ∃ K r, hocketlaw14_ViewForms.f K which = some r := by
  refine ⟨100, (), ?_⟩
  have hb : band .i64 which 255 = which % 256 := band_m which 255 8 rfl (by decide)
  unfold hocketlaw14_ViewForms.f
  rw [hb]
  have ht := tmod_nn (x := which % 256) (y := 11) (by omega) (by omega)
  simp only [hocketlaw14_ViewForms_1.f, Option.bind_some, List.length_cons, List.length_nil]
  rw [rem_eq (by decide), show ((0 + 1 + 1 + 1 + 1 + 1 + 1 + 1 + 1 + 1 + 1 + 1 : Nat) : Int) = 11 by decide]
  generalize (which % 256).tmod 11 = i at ht ⊢
  have : i = 0 ∨ i = 1 ∨ i = 2 ∨ i = 3 ∨ i = 4 ∨ i = 5 ∨ i = 6 ∨ i = 7 ∨ i = 8 ∨ i = 9 ∨ i = 10 := by omega
  rcases this with rfl | rfl | rfl | rfl | rfl | rfl | rfl | rfl | rfl | rfl | rfl <;> decide +kernel
def popN (a : Nat) : Nat := a % 2 + a / 2 % 2 + a / 4 % 2 + a / 8 % 2 + a / 16 % 2 + a / 32 % 2 + a / 64 % 2
def memN (a : Nat) : List Int := let b := fun i : Nat => if a.testBit i = true then [(i : Int)] else []; b 0 ++ (b 1 ++ (b 2 ++ (b 3 ++ (b 4 ++ (b 5 ++ b 6)))))
theorem most_small (a : Nat) (n : Nat) (ha : a < 256) (hn : n < 7) : view_Most.f (a : Int) ((n : Int) + 1) = some (decide (a < 2 ^ (n + 1) ∧ n + 1 < 2 * popN a)) := by
  have h : ∀ a : Fin 256, ∀ n : Fin 7, view_Most.f ((a : Nat) : Int) (((n : Nat) : Int) + 1) = some (decide ((a : Nat) < 2 ^ ((n : Nat) + 1) ∧ (n : Nat) + 1 < 2 * popN a)) := by decide +kernel
  exact h ⟨a, ha⟩ ⟨n, hn⟩
theorem members_small (a : Nat) (ha : a < 256) : view_Members.f 100 (a : Int) = some (memN a) := by
  have h : ∀ a : Fin 256, view_Members.f 100 ((a : Nat) : Int) = some (memN a) := by decide +kernel
  exact h ⟨a, ha⟩
theorem counts14 (a n : Nat) (ha : a < 256) (hn : n < 7) : hocketlaw14_ViewCounts.f 100 (a : Int) (n : Int) = some () := by
  have h : ∀ a : Fin 256, ∀ n : Fin 7, hocketlaw14_ViewCounts.f 100 ((a : Nat) : Int) ((n : Nat) : Int) = some () := by decide +kernel
  exact h ⟨a, ha⟩ ⟨n, hn⟩
theorem counts14_congr {x y u v : Int} (h : band .i64 x 255 = band .i64 y 255) (h2 : Int.tmod (band .i64 u 255) 7 = Int.tmod (band .i64 v 255) 7) : hocketlaw14_ViewCounts.f 100 x u = hocketlaw14_ViewCounts.f 100 y v := by
  simp only [hocketlaw14_ViewCounts.f, hocketlaw14_ViewCounts.J1, hocketlaw14_ViewCounts.J2, hocketlaw14_ViewCounts.L1, hocketlaw14_ViewCounts.B1, hocketlaw14_ViewCounts.L2, hocketlaw14_ViewCounts.B2, h, h2]
theorem hocketlaw14_ViewCounts.pure (a n : Int) {o0 o1 : Prop} (_ : o0) (_ : o1) : ∃ K r, hocketlaw14_ViewCounts.f K a n = some r := by
  refine ⟨100, (), ?_⟩
  have ha : band .i64 a 255 = a % 256 := band_m a 255 8 rfl (by decide)
  have hn : band .i64 n 255 = n % 256 := band_m n 255 8 rfl (by decide)
  have ht := tmod_nn (x := n % 256) (y := 7) (by omega) (by omega)
  obtain ⟨p, hp⟩ : ∃ p : Nat, (p : Int) = a % 256 := ⟨(a % 256).toNat, by omega⟩
  obtain ⟨q, hq⟩ : ∃ q : Nat, (q : Int) = (n % 256).tmod 7 := ⟨((n % 256).tmod 7).toNat, by omega⟩
  have hp' : band .i64 (p : Int) 255 = (p : Int) % 256 := band_m _ 255 8 rfl (by decide)
  have hq' : band .i64 (q : Int) 255 = (q : Int) % 256 := band_m _ 255 8 rfl (by decide)
  have hq2 := tmod_nn (x := (q : Int) % 256) (y := 7) (by omega) (by omega)
  have hq3 : (q : Int) % 256 = q := by omega
  have hq4 : Int.tmod (q : Int) 7 = (q : Int) := Int.tmod_eq_of_lt (by omega) (by omega)
  rw [counts14_congr (y := p) (v := q) (by rw [ha, hp']; omega) (by rw [hn, hq', hq3, hq4, hq])]
  exact counts14 p q (by omega) (by omega)
theorem meet_small (a b n : Nat) (ha : a < 128) (hb : b < 128) (hab : a &&& b = 0) (hn : n < 8) : ¬ (a < 2 ^ n ∧ n < 2 * popN a ∧ b < 2 ^ n ∧ n < 2 * popN b) := by
  have h : ∀ a : Fin 128, ∀ b : Fin 128, ((a : Nat) &&& (b : Nat)) = 0 → ∀ n : Fin 8, ¬ ((a : Nat) < 2 ^ (n : Nat) ∧ (n : Nat) < 2 * popN a ∧ (b : Nat) < 2 ^ (n : Nat) ∧ (n : Nat) < 2 * popN b) := by decide +kernel
  exact h ⟨a, ha⟩ ⟨b, hb⟩ hab ⟨n, hn⟩
theorem mem_nil (a : Nat) (ha : a < 128) (h : (memN a).length = 0) : a = 0 := by
  have h : ∀ a : Fin 128, (memN a).length = 0 → (a : Nat) = 0 := by decide +kernel
  exact h ⟨a, ha⟩ (by assumption)
theorem meets2_small (a : Nat) (ha : a < 128) : hocketlaw14_ViewMeets.J2 100 (a : Int) false = some () := by
  have h : ∀ a : Fin 128, hocketlaw14_ViewMeets.J2 100 ((a : Nat) : Int) false = some () := by decide +kernel
  exact h ⟨a, ha⟩
theorem meets2_congr {x y : Int} (h : band .i64 x 127 = band .i64 y 127) (z : Bool) : hocketlaw14_ViewMeets.J2 100 x z = hocketlaw14_ViewMeets.J2 100 y z := by
  simp only [hocketlaw14_ViewMeets.J2, hocketlaw14_ViewMeets.J3, hocketlaw14_ViewMeets.L1, hocketlaw14_ViewMeets.B1, hocketlaw14_ViewMeets.J4, h]
def nextN (p i : Int) : Int := 8 * ((mn (mx p 0) 549755813888) / 8 + 1) + mn (mx i 0) 6
theorem next_eq (p i : Int) : view_Next.f p i = some (nextN p i) := by
  unfold view_Next.f view_node.f nextN
  have h : Int.tdiv (mn (mx p 0) 549755813888) 8 = (mn (mx p 0) 549755813888) / 8 := Int.tdiv_eq_ediv_of_nonneg (by rw [mn_eq, mx_eq]; omega)
  simp only [Option.bind_some]
  rw [h]
  have hp : 0 ≤ mn (mx p 0) 549755813888 ∧ mn (mx p 0) 549755813888 ≤ 549755813888 := by rw [mn_eq, mx_eq]; omega
  have hi : 0 ≤ mn (mx i 0) 6 ∧ mn (mx i 0) 6 ≤ 6 := by rw [mn_eq, mx_eq]; omega
  generalize mn (mx p 0) 549755813888 = q at *
  generalize mn (mx i 0) 6 = j at *
  have : q / 8 ≤ 549755813888 := by omega
  have : 0 ≤ q / 8 := by omega
  rw [w64_id (n := q / 8) (by omega), w64_id (n := q / 8 + 1) (by omega), w64_id (n := 8 * (q / 8 + 1)) (by omega), w64_id (by omega)]
theorem who_eq (v : Int) : view_Who.f v = some (mx v 0 % 8) := by
  unfold view_Who.f
  rw [Int.tmod_eq_emod_of_nonneg (by rw [mx_eq]; omega)]
theorem hocketlaw14_ViewMeets.pure (a b n prom i k : Int) {o0 o1 o2 o3 o4 o5 : Prop} (_ : o0) (_ : o1) (_ : o2) (_ : o3) (_ : o4) (_ : o5) : ∃ K r, hocketlaw14_ViewMeets.f K a b n prom i k = some r := by
  refine ⟨100, sat_pure ?_⟩
  have ha : band .i64 a 127 = a % 128 := band_m a 127 7 rfl (by decide)
  have hb : band .i64 b 127 = b % 128 := band_m b 127 7 rfl (by decide)
  have hn : band .i64 n 255 = n % 256 := band_m n 255 8 rfl (by decide)
  have hi : band .i64 i 255 = i % 256 := band_m i 255 8 rfl (by decide)
  have hk : band .i64 k 255 = k % 256 := band_m k 255 8 rfl (by decide)
  have hp : band .i64 prom 1048575 = prom % 1048576 := band_m prom 1048575 20 rfl (by decide)
  have ht := tmod_nn (x := n % 256) (y := 7) (by omega) (by omega)
  have hi2 := tmod_nn (x := i % 256) (y := 7) (by omega) (by omega)
  have hk2 := tmod_nn (x := k % 256) (y := 7) (by omega) (by omega)
  obtain ⟨p, hpp⟩ : ∃ p : Nat, (p : Int) = a % 128 := ⟨(a % 128).toNat, by omega⟩
  obtain ⟨q, hqq⟩ : ∃ p : Nat, (p : Int) = b % 128 := ⟨(b % 128).toNat, by omega⟩
  obtain ⟨m, hm⟩ : ∃ q : Nat, (q : Int) = (n % 256).tmod 7 := ⟨((n % 256).tmod 7).toNat, by omega⟩
  have j2 : Sat (hocketlaw14_ViewMeets.J2 100 a false) (fun _ => True) := by
    rw [meets2_congr (y := p) (by rw [ha, band_m _ 127 7 rfl (by decide)]; omega), meets2_small p (by omega)]
    exact sat_r trivial
  have j1 : Sat (hocketlaw14_ViewMeets.J1 100 prom i k a false) (fun _ => True) := by
    unfold hocketlaw14_ViewMeets.J1
    rw [hp, hi, hk]
    generalize (i % 256).tmod 7 = u at *
    generalize (k % 256).tmod 7 = v at *
    have hpr : 0 ≤ prom % 1048576 ∧ prom % 1048576 < 1048576 := by omega
    generalize prom % 1048576 = pr at *
    have hpm : band .i64 pr 7 = pr % 8 := band_m pr 7 3 rfl (by decide)
    rw [hpm, w64_id (n := pr + pr % 8) (by omega)]
    have nx : ∀ z w : Int, 0 ≤ z → z ≤ 100000000 → 0 ≤ w → w ≤ 6 → nextN z w = 8 * (z / 8 + 1) + w := fun z w h1 h2 h3 h4 => by
      unfold nextN
      rw [mn_eq, mx_eq, mn_eq, mx_eq]
      have e1 : max z 0 = z := by omega
      have e2 : min z 549755813888 = z := by omega
      have e3 : max w 0 = w := by omega
      have e4 : min w 6 = w := by omega
      rw [e1, e2, e3, e4]
    refine sat_f (by simp) (sat_b (next_eq _ _) (sat_b (next_eq _ _) ?_))
    rw [nx pr u (by omega) (by omega) (by omega) (by omega), nx (pr + pr % 8) v (by omega) (by omega) (by omega) (by omega)]
    refine sat_f (by omega) (sat_b (who_eq _) ?_)
    rw [mx_eq]
    refine sat_t (by omega) (sat_if (fun huv => ?_) (fun huv => ?_))
    · refine sat_b (next_eq _ _) ?_
      rw [nx _ v (by omega) (by omega) (by omega) (by omega), decide_eq_false (by omega)]
      exact j2
    · refine sat_f (by omega) (sat_b (next_eq _ _) ?_)
      rw [nx _ v (by omega) (by omega) (by omega) (by omega), decide_eq_false (by omega)]
      exact j2
  unfold hocketlaw14_ViewMeets.f
  rw [ha, hb, hn, ← hpp, ← hqq, ← hm, w64_id (by omega)]
  refine sat_b (most_small p m (by omega) (by omega)) (sat_if (fun h1 => ?_) (fun _ => j1))
  refine sat_b (most_small q m (by omega) (by omega)) (sat_if (fun h2 => ?_) (fun _ => j1))
  have hand : band .i64 (p : Int) (q : Int) = ((p &&& q : Nat) : Int) := by
    have h : ∀ a : Fin 128, ∀ b : Fin 128, band .i64 ((a : Nat) : Int) ((b : Nat) : Int) = (((a : Nat) &&& (b : Nat) : Nat) : Int) := by decide +kernel
    exact h ⟨p, by omega⟩ ⟨q, by omega⟩
  have hlt : p &&& q < 128 := Nat.lt_of_le_of_lt Nat.and_le_left (by omega)
  rw [hand]
  refine sat_b (members_small _ (by omega)) ?_
  have h1 := of_decide_eq_true h1
  have h2 := of_decide_eq_true h2
  have hne : ((memN (p &&& q)).length : Int) ≠ 0 := fun h => by
    have h0 := mem_nil _ hlt (by omega)
    exact meet_small p q (m + 1) (by omega) (by omega) h0 (by omega) ⟨h1.1, h1.2, h2.1, h2.2⟩
  rw [show (((memN (p &&& q)).length : Int) == 0) = false by simpa using hne]
  exact j1
