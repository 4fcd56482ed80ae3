/- What the statements say, of the plain functions. -/
import Derived.Test.YtabedbggldnkhaaDefs
import Derived.Test.YtabedbggldnkhaaLe
import Derived.Test.YtabedbggldnkhaaThInts
import Derived.Test.YtabedbggldnkhaaThTokn
/- Layer 17: the token. -/
namespace Go.Gp
open Go
theorem awake17 : hocketlaw17_awake.f 100 = some () := by decide +kernel
theorem band_lt (x m : Int) (k : Nat) (hm : m = 2 ^ k - 1) (hk : k < 63) : 0 ≤ band .i64 x m ∧ band .i64 x m < 2 ^ k := by subst hm; exact band_le x k hk
theorem same_refl {m : api_Msg} (h1 : m.Have.length < 100) (h2 : m.Need.length < 100) : hocketref11_Same.f 100 m m = some true := by
  unfold hocketref11_Same.f hocketref4_SameEntry.f
  simp only [if_true]
  rw [same_ints h1 (by omega), same_ints h2 (by omega)]
  simp
theorem token1 (x : Int) (l : List Int) (h : 0 ≤ x) : ∃ r, hocketlaw17_Token_1.f x l = some r := by
  unfold hocketlaw17_Token_1.f
  by_cases hl : x < (l.length : Int)
  · rw [if_pos hl, ix_get h (by omega)]; exact ⟨_, rfl⟩
  · rw [if_neg hl]; exact ⟨_, rfl⟩
theorem token_ok (l : List Int) : Sat (hocketlaw17_Token.f 100 l) (fun m => m.Have.length ≤ 7 ∧ m.Need.length ≤ 7) := by
  unfold hocketlaw17_Token.f
  obtain ⟨a, ha⟩ := token1 0 l (by omega)
  obtain ⟨b, hb⟩ := token1 1 l (by omega)
  obtain ⟨c, hc⟩ := token1 2 l (by omega)
  refine sat_b ha (sat_b ha (sat_b ha (sat_b hb (sat_b hb ?_))))
  have b7 := band_lt c 7 3 rfl (by decide)
  have b7' := band_lt (shr .i64 c 3) 7 3 rfl (by decide)
  refine sat_loop (fun v : Int × List Int => (7 - v.1).toNat) (fun v => 0 ≤ v.1 ∧ v.1 ≤ 7 ∧ (v.2.length : Int) = v.1) ?_ 100 _ ⟨by simp, by simp, by simp⟩ (by simp only; omega)
  rintro ⟨i, d⟩ ⟨h0, h1, h2⟩ ag hag
  simp only at h0 h1 h2
  show Sat (hocketlaw17_Token.B2 100 l b _ ag i d) _
  unfold hocketlaw17_Token.B2
  refine sat_b hc (sat_if (fun hlt => ?_) (fun _ => ?_))
  · obtain ⟨e, he⟩ := token1 (w64 (i + 3)) l (by rw [w64_id (by omega)]; omega)
    refine sat_b he (sat_b (app_eq (by simp only [List.length_singleton]; omega)) ?_)
    have hw : w64 (i + 1) = i + 1 := w64_id (by omega)
    rw [hw]
    exact hag _ ⟨by simp only; omega, by simp only; omega, by simp; omega⟩ (by simp only; omega)
  · show Sat (hocketlaw17_Token.J1 100 l b a a a b d) _
    unfold hocketlaw17_Token.J1
    have hd : d.length ≤ 7 := by omega
    refine sat_loop (fun v : Int × List Int => (7 - v.1).toNat) (fun v => 0 ≤ v.1 ∧ v.1 ≤ 7 ∧ (v.2.length : Int) = v.1) ?_ 100 _ ⟨by simp, by simp, by simp⟩ (by simp only; omega)
    rintro ⟨i, e⟩ ⟨h0, h1, h2⟩ ag hag
    simp only at h0 h1 h2
    show Sat (hocketlaw17_Token.B1 100 l b _ ag i e) _
    unfold hocketlaw17_Token.B1
    refine sat_b hc (sat_if (fun hlt => ?_) (fun _ => ?_))
    · obtain ⟨f, hf⟩ := token1 (w64 (i + 3)) l (by rw [w64_id (by omega)]; omega)
      refine sat_b hf (sat_b (app_eq (by simp only [List.length_singleton]; omega)) ?_)
      have hw : w64 (i + 1) = i + 1 := w64_id (by omega)
      rw [hw]
      exact hag _ ⟨by simp only; omega, by simp only; omega, by simp; omega⟩ (by simp only; omega)
    · show Sat (hocketlaw17_Token.J2 100 a a a b b d e) _
      unfold hocketlaw17_Token.J2
      exact sat_r ⟨hd, by simp only; omega⟩
theorem hocketlaw17_ToknOwn.pure (l : List Int) (whole : Int) (_h : l.length ≤ 140737488351232 ∧ ∀ x ∈ l, i64ok x) {o0 : Prop} (_ : o0) : ∃ K r, hocketlaw17_ToknOwn.f K l whole = some r := by
  refine ⟨100, sat_pure ?_⟩
  unfold hocketlaw17_ToknOwn.f
  obtain ⟨t, h1, h2, h3⟩ := token_ok l
  refine sat_b h1 (sat_b h1 (sat_bs (pass_sat (by omega) (by omega) (by omega) (by simp) _ _ _ _ _) ?_))
  rintro ⟨u, again⟩ ⟨k1, k2, k3, k4, k5, k6⟩
  simp only at k1 k4 k6
  have hlen : u.Have.length ≤ 7 := by rw [k1]; unfold haveL; split <;> (try rw [List.length_set]) <;> exact h2
  have fin : Sat (hocketlaw17_ToknOwn.J3 100 t t) (fun _ => True) := by
    unfold hocketlaw17_ToknOwn.J3
    exact sat_b (same_refl (by omega) (by omega)) (sat_t rfl (sat_b awake17 (sat_r trivial)))
  have two : Sat (hocketlaw17_ToknOwn.J2 100 (u, again) t t) (fun _ => True) := by
    unfold hocketlaw17_ToknOwn.J2
    refine sat_loop (fun v : List Int × Int => ((again.length : Int) - v.2).toNat) (fun v => 0 ≤ v.2 ∧ v.2 ≤ again.length ∧ v.1.length = again.length) ?_ 100 _ ⟨by simp, by simp, rfl⟩ (by simp only; omega)
    rintro ⟨r, i⟩ ⟨q0, q1, q2⟩ ag hag
    simp only at q0 q1 q2
    show Sat (hocketlaw17_ToknOwn.B1 100 (u, again) _ ag r i) _
    unfold hocketlaw17_ToknOwn.B1
    refine sat_if (fun hlt => ?_) (fun _ => fin)
    have hlt : i < again.length := hlt
    refine sat_b (ix_get q0 (by omega)) ?_
    have hw : w64 (i + 1) = i + 1 := w64_id (by omega)
    rw [hw]
    exact hag _ ⟨by simp only; omega, by simp only; omega, by simpa using q2⟩ (by simp only; omega)
  have one : ∀ x, Sat (hocketlaw17_ToknOwn.J1 100 (u, again) t t x) (fun _ => True) := fun x => by
    unfold hocketlaw17_ToknOwn.J1
    refine sat_loop (fun v : Int × List Int => ((u.Need.length : Int) - v.1).toNat) (fun v => 0 ≤ v.1 ∧ v.1 ≤ u.Need.length ∧ v.2.length = u.Need.length) ?_ 100 _ ⟨by simp, by simp, rfl⟩ (by simp only; omega)
    rintro ⟨i, r⟩ ⟨q0, q1, q2⟩ ag hag
    simp only at q0 q1 q2
    show Sat (hocketlaw17_ToknOwn.B2 100 (u, again) _ ag i r) _
    unfold hocketlaw17_ToknOwn.B2
    refine sat_if (fun hlt => ?_) (fun _ => two)
    have hlt : i < u.Need.length := hlt
    refine sat_b (ix_get q0 (by omega)) ?_
    have hw : w64 (i + 1) = i + 1 := w64_id (by omega)
    rw [hw]
    exact hag _ ⟨by simp only; omega, by simp only; omega, by simpa using q2⟩ (by simp only; omega)
  refine sat_loop (fun v : Int × List Int => ((u.Have.length : Int) - v.1).toNat) (fun v => 0 ≤ v.1 ∧ v.1 ≤ u.Have.length ∧ v.2.length = u.Have.length) ?_ 100 _ ⟨by simp, by simp, rfl⟩ (by simp only; omega)
  rintro ⟨i, r⟩ ⟨q0, q1, q2⟩ ag hag
  simp only at q0 q1 q2
  show Sat (hocketlaw17_ToknOwn.B3 100 (u, again) _ ag i r) _
  unfold hocketlaw17_ToknOwn.B3
  refine sat_if (fun hlt => ?_) (fun _ => one r)
  have hlt : i < u.Have.length := hlt
  refine sat_b (ix_get q0 (by omega)) ?_
  have hw : w64 (i + 1) = i + 1 := w64_id (by omega)
  rw [hw]
  exact hag _ ⟨by simp only; omega, by simp only; omega, by simpa using q2⟩ (by simp only; omega)
end Go.Gp
