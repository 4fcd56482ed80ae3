/- What the statements say, of the plain functions. -/
import Derived.Test.YtabedbggldnkhaaDefs
import Derived.Test.YtabedbggldnkhaaLe
import Derived.Test.YtabedbggldnkhaaThInts
import Derived.Test.YtabedbggldnkhaaThView
import Derived.Test.YtabedbggldnkhaaThView2
import Derived.Test.YtabedbggldnkhaaThMsg
/- Layer 14: views as the document says. -/
namespace Go.Gp
open Go
theorem awake14 : hocketlaw14_awake.f 100 = some () := by decide +kernel
/-- A set's members, of any number. -/
def memI (a : Int) (i : Nat) : List Int := ((List.range i).filter fun k : Nat => decide (band .i64 (shr .i64 a (k : Int)) 1 = 1)).map fun k : Nat => (k : Int)
theorem memI_succ (a : Int) (i : Nat) : memI a (i + 1) = if band .i64 (shr .i64 a (i : Int)) 1 = 1 then memI a i ++ [(i : Int)] else memI a i := by
  unfold memI
  rw [List.range_succ, List.filter_append, List.map_append]
  by_cases h : band .i64 (shr .i64 a (i : Int)) 1 = 1
  · rw [if_pos h]; simp [h]
  · rw [if_neg h]; simp [h]
theorem memI_len (a : Int) (i : Nat) : (memI a i).length ≤ i := by
  unfold memI
  rw [List.length_map]
  exact Nat.le_trans (List.length_filter_le _ _) (by simp)
theorem members_eq (a : Int) : view_Members.f 100 a = some (memI a 7) := by
  suffices h : Sat (view_Members.f 100 a) (fun r => r = memI a 7) by
    obtain ⟨r, h1, h2⟩ := h; rw [h1, h2]
  unfold view_Members.f
  refine sat_loop (fun v : List Int × Int => (7 - v.2).toNat) (fun v => ∃ i : Nat, v.2 = i ∧ i ≤ 7 ∧ v.1 = memI a i) ?_ 100 _ ⟨0, rfl, by omega, rfl⟩ (by simp only; omega)
  rintro ⟨l, j⟩ ⟨i, h1, h2, h3⟩ ag hag
  simp only at h1 h2 h3
  subst h1 h3
  show Sat (view_Members.B1 100 a _ ag _ _) _
  unfold view_Members.B1
  have hw : w64 ((i : Int) + 1) = ((i + 1 : Nat) : Int) := by rw [w64_succ (by omega) (by omega)]; simp
  have hl := memI_len a i
  refine sat_if (fun hlt => ?_) (fun hge => ?_)
  · refine sat_b (must_eq (by omega)) (sat_if (fun hb => ?_) (fun hb => ?_))
    · refine sat_b (app_eq (by simp only [List.length_singleton]; omega)) (hag _ ⟨i + 1, hw, by omega, by rw [memI_succ, if_pos hb]⟩ (by simp only; rw [hw]; omega))
    · exact hag _ ⟨i + 1, hw, by omega, by rw [memI_succ, if_neg hb]⟩ (by simp only; rw [hw]; omega)
  · have : i = 7 := by omega
    subst this
    exact sat_r rfl
theorem membersr_eq (a : Int) : hocketref11_Members.f 100 a = some (memI a 7) := by
  suffices h : Sat (hocketref11_Members.f 100 a) (fun r => r = memI a 7) by
    obtain ⟨r, h1, h2⟩ := h; rw [h1, h2]
  unfold hocketref11_Members.f
  refine sat_loop (fun v : List Int × Int => (7 - v.2).toNat) (fun v => ∃ i : Nat, v.2 = i ∧ i ≤ 7 ∧ v.1 = memI a i) ?_ 100 _ ⟨0, rfl, by omega, rfl⟩ (by simp only; omega)
  rintro ⟨l, j⟩ ⟨i, h1, h2, h3⟩ ag hag
  simp only at h1 h2 h3
  subst h1 h3
  show Sat (hocketref11_Members.B1 100 a _ ag _ _) _
  unfold hocketref11_Members.B1
  have hw : w64 ((i : Int) + 1) = ((i + 1 : Nat) : Int) := by rw [w64_succ (by omega) (by omega)]; simp
  have hl := memI_len a i
  rw [wu_id (x := (i : Int)) (by omega) (by omega)]
  refine sat_if (fun hlt => ?_) (fun hge => ?_)
  · refine sat_if (fun hb => ?_) (fun hb => ?_)
    · refine sat_b (app_eq (by simp only [List.length_singleton]; omega)) (hag _ ⟨i + 1, hw, by omega, by rw [memI_succ, if_pos hb]⟩ (by simp only; rw [hw]; omega))
    · exact hag _ ⟨i + 1, hw, by omega, by rw [memI_succ, if_neg hb]⟩ (by simp only; rw [hw]; omega)
  · have : i = 7 := by omega
    subst this
    exact sat_r rfl
def aftF (b d : Int) : List Int → Int
  | [] => d
  | x :: l => if x > b then x else aftF b d l
theorem aftF_nil (b d : Int) : aftF b d [] = d := rfl
theorem aftF_cons (b d x : Int) (l : List Int) : aftF b d (x :: l) = if x > b then x else aftF b d l := rfl
theorem after_eq (a b : Int) : ∃ r, view_After.f 100 a b = some r ∧ hocketref11_After.f 100 a b = some r := by
  have hl := memI_len a 7
  refine ⟨aftF b (if (memI a 7).length = 0 then -1 else (memI a 7)[0]!) (memI a 7), ?_, ?_⟩
  · suffices h : Sat (view_After.f 100 a b) (fun r => r = aftF b (if (memI a 7).length = 0 then -1 else (memI a 7)[0]!) (memI a 7)) by
      obtain ⟨r, h1, h2⟩ := h; rw [h1, h2]
    unfold view_After.f
    refine sat_b (members_eq a) ?_
    generalize memI a 7 = l at *
    refine sat_loop (fun v : Int => ((l.length : Int) - v).toNat) (fun v => ∃ i : Nat, v = i ∧ i ≤ l.length ∧ aftF b (if l.length = 0 then -1 else l[0]!) (l.drop i) = aftF b (if l.length = 0 then -1 else l[0]!) l) ?_ 100 _ ⟨0, rfl, by omega, rfl⟩ (by omega)
    rintro j ⟨i, rfl, h2, h3⟩ ag hag
    show Sat (view_After.B1 100 l b _ ag _) _
    unfold view_After.B1
    have hw : w64 ((i : Int) + 1) = ((i + 1 : Nat) : Int) := by rw [w64_succ (by omega) (by omega)]; simp
    refine sat_if (fun hlt => ?_) (fun hge => ?_)
    · have hi : i < l.length := by omega
      refine sat_b (ix_get (by omega) (by simpa using hi)) ?_
      simp only [Int.toNat_natCast]
      rw [List.drop_eq_getElem_cons hi, aftF_cons] at h3
      refine sat_if (fun hg => ?_) (fun hg => ?_)
      · rw [if_pos hg] at h3
        exact sat_r h3
      · rw [if_neg hg] at h3
        exact hag _ ⟨i + 1, hw, by omega, h3⟩ (by rw [hw]; omega)
    · have : i = l.length := by omega
      subst this
      rw [List.drop_length, aftF_nil] at h3
      unfold view_After.J1
      refine sat_if (fun h0 => ?_) (fun h0 => ?_)
      · rw [if_pos (show l.length = 0 by omega)] at h3
        exact sat_r (by rw [if_pos (show l.length = 0 by omega)]; exact h3)
      · refine sat_b (ix_get (by omega) (by simp; omega)) ?_
        refine sat_r ?_
        rw [if_neg (show ¬ l.length = 0 by omega)] at h3 ⊢
        have : l[0]! = l[(0 : Int).toNat]'(by simp; omega) := by simp [getElem!_pos l 0 (by omega)]
        rw [← this]
        exact h3
  · suffices h : Sat (hocketref11_After.f 100 a b) (fun r => r = aftF b (if (memI a 7).length = 0 then -1 else (memI a 7)[0]!) (memI a 7)) by
      obtain ⟨r, h1, h2⟩ := h; rw [h1, h2]
    unfold hocketref11_After.f
    refine sat_b (membersr_eq a) ?_
    generalize memI a 7 = l at *
    refine sat_loop (fun v : Int => ((l.length : Int) - v).toNat) (fun v => ∃ i : Nat, v = i ∧ i ≤ l.length ∧ aftF b (if l.length = 0 then -1 else l[0]!) (l.drop i) = aftF b (if l.length = 0 then -1 else l[0]!) l) ?_ 100 _ ⟨0, rfl, by omega, rfl⟩ (by omega)
    rintro j ⟨i, rfl, h2, h3⟩ ag hag
    show Sat (hocketref11_After.B1 100 l b _ ag _) _
    unfold hocketref11_After.B1
    have hw : w64 ((i : Int) + 1) = ((i + 1 : Nat) : Int) := by rw [w64_succ (by omega) (by omega)]; simp
    refine sat_if (fun hlt => ?_) (fun hge => ?_)
    · have hi : i < l.length := by omega
      refine sat_b (ix_get (by omega) (by simpa using hi)) ?_
      simp only [Int.toNat_natCast]
      rw [List.drop_eq_getElem_cons hi, aftF_cons] at h3
      refine sat_if (fun hg => ?_) (fun hg => ?_)
      · rw [if_pos hg] at h3
        refine sat_b (ix_get (by omega) (by simpa using hi)) ?_
        simp only [Int.toNat_natCast]
        exact sat_r h3
      · rw [if_neg hg] at h3
        exact hag _ ⟨i + 1, hw, by omega, h3⟩ (by rw [hw]; omega)
    · have : i = l.length := by omega
      subst this
      rw [List.drop_length, aftF_nil] at h3
      unfold hocketref11_After.J1
      refine sat_if (fun h0 => ?_) (fun h0 => ?_)
      · rw [if_pos (show l.length = 0 by omega)] at h3
        exact sat_r (by rw [if_pos (show l.length = 0 by omega)]; exact h3)
      · refine sat_b (ix_get (by omega) (by simp; omega)) ?_
        refine sat_r ?_
        rw [if_neg (show ¬ l.length = 0 by omega)] at h3 ⊢
        have : l[0]! = l[(0 : Int).toNat]'(by simp; omega) := by simp [getElem!_pos l 0 (by omega)]
        rw [← this]
        exact h3
theorem most_any (a x : Int) : ∃ r, view_Most.f a x = some r ∧ hocketref11_Most.f 100 a x = some r := by
  obtain ⟨hn, hn1, hn7⟩ := nodes_eq x
  by_cases h : 0 ≤ a ∧ a < 128
  · obtain ⟨p, rfl⟩ : ∃ p : Nat, a = p := ⟨a.toNat, by omega⟩
    exact ⟨_, most_eq (by omega) x, mostr_eq (by omega) x⟩
  · refine ⟨false, ?_, ?_⟩
    · unfold view_Most.f
      by_cases h0 : a ≥ 0
      · rw [if_pos h0, hn, must_eq (by omega)]
        simp only [Option.bind_some]
        rw [shl_bit (by omega), if_neg]
        have : (2 ^ nodes x : Nat) ≤ 2 ^ 7 := Nat.pow_le_pow_right (by decide) hn7
        omega
      · rw [if_neg h0]
    · unfold hocketref11_Most.f
      rw [hn, wu_id (by omega) (by omega), if_neg]
      intro hs
      unfold shr at hs
      rw [show min ((nodes x : Int)).toNat IntKind.i64.bits = nodes x by simp only [Int.toNat_natCast]; show min (nodes x) 64 = _; omega] at hs
      have hp : (2 : Int) ^ nodes x ≤ 128 := by
        have : (2 ^ nodes x : Nat) ≤ 2 ^ 7 := Nat.pow_le_pow_right (by decide) hn7
        exact_mod_cast this
      have hp0 : (0 : Int) < 2 ^ nodes x := Int.pow_pos (by decide)
      rw [Int.fdiv_eq_ediv_of_nonneg _ (by omega)] at hs
      have e1 := Int.emod_add_mul_ediv a (2 ^ nodes x)
      have e2 := Int.emod_nonneg a (show (2 : Int) ^ nodes x ≠ 0 by omega)
      have e3 := Int.emod_lt_of_pos a hp0
      rw [hs] at e1
      omega
theorem hocketlaw14_ViewTells.pure (a b n : Int) (raw : List api_Msg) (l : List Int) {o0 o1 o2 : Prop} (_ : o0) (_ : o1) (_ : o2) (_h3 : raw.length ≤ 140737488351232 ∧ ∀ x ∈ raw, ok_api_Msg x) (_h4 : l.length ≤ 140737488351232 ∧ ∀ x ∈ l, i64ok x) : ∃ K r, hocketlaw14_ViewTells.f K a b n raw l = some r := by
  refine ⟨100, sat_pure ?_⟩
  unfold hocketlaw14_ViewTells.f
  refine sat_if (fun _ => sat_b awake14 (sat_r trivial)) (fun hlen => ?_)
  have hraw : raw.length ≤ 15 := by omega
  have inner : ∀ (k : Int) (x : List api_Msg), x.length < 100 → ∀ ag : Int → Option Unit, ∀ j : Int, Sat (ag (w64 (j + 1))) (fun _ => True) → Sat (hocketlaw14_ViewTells.L2 100 k x (fun v => hocketlaw14_ViewTells.J4 100 ag j) 100 0) (fun _ => True) := fun k x hx ag j hj => by
    refine sat_loop (fun v : Int => (4 - v).toNat) (fun v => 0 ≤ v ∧ v ≤ 4) ?_ 100 _ (by omega) (by omega)
    intro i hi ag2 hag
    show Sat (hocketlaw14_ViewTells.B2 100 k x _ ag2 i) _
    unfold hocketlaw14_ViewTells.B2
    simp only [List.length_cons, List.length_nil]
    refine sat_if (fun hlt => ?_) (fun hge => ?_)
    · obtain ⟨q, q1, _⟩ := ix_all (R := fun _ : Int => True) (i := i) hi.1 (xs := ([k, 3, 5, 7] : List Int)) (by simp; omega) (by simp)
      refine sat_b q1 ?_
      refine sat_bs (choose_eq (by omega) (by omega) q) (fun r hr => ?_)
      refine sat_bs (chooser_eq hx q) (fun s hs => ?_)
      have := hr.eq hs
      subst this
      rw [w64_id (by omega)]
      exact sat_t rfl (sat_t rfl (sat_t rfl (sat_t rfl (hag _ (by omega) (by omega)))))
    · unfold hocketlaw14_ViewTells.J4
      exact hj
  have j2 : ∀ (k : Int) (s : List api_Msg), s.length ≤ 9 → Sat (hocketlaw14_ViewTells.J2 100 raw k s) (fun _ => True) := fun k s hs => by
    unfold hocketlaw14_ViewTells.J2
    refine sat_b (app_eq (by simp; omega)) (sat_b (app_eq (by simp; omega)) ?_)
    refine sat_loop (fun v : Int => (3 - v).toNat) (fun v => 0 ≤ v ∧ v ≤ 3) ?_ 100 _ (by omega) (by omega)
    intro i hi ag hag
    show Sat (hocketlaw14_ViewTells.B1 100 raw s _ k _ ag i) _
    unfold hocketlaw14_ViewTells.B1
    simp only [List.length_cons, List.length_nil]
    refine sat_if (fun hlt => ?_) (fun hge => ?_)
    · obtain ⟨q, q1, q2⟩ := ix_all (R := fun q : List api_Msg => q.length < 100) (i := i) hi.1 (xs := ([raw, s, [] ++ s ++ raw] : List (List api_Msg))) (by simp; omega) (by
        intro q hq
        simp only [List.mem_cons, List.not_mem_nil, or_false] at hq
        rcases hq with rfl | rfl | rfl
        · omega
        · omega
        · simp; omega)
      refine sat_b q1 (inner k q q2 ag i ?_)
      rw [w64_id (by omega)]
      exact hag _ (by omega) (by omega)
    · show Sat (hocketlaw14_ViewTells.J3 100) _
      unfold hocketlaw14_ViewTells.J3
      exact sat_b awake14 (sat_r trivial)
  have j1 : ∀ k : Int, Sat (hocketlaw14_ViewTells.J1 100 l raw k) (fun _ => True) := fun k => by
    unfold hocketlaw14_ViewTells.J1
    refine sat_loop (fun v : List api_Msg × Int => (9 - v.2).toNat) (fun v => 0 ≤ v.2 ∧ v.2 ≤ 9 ∧ (v.1.length : Int) = v.2) ?_ 100 _ ⟨by simp, by simp, by simp⟩ (by simp only; omega)
    rintro ⟨s, i⟩ ⟨h0, h1, h2⟩ ag hag
    simp only at h0 h1 h2
    show Sat (hocketlaw14_ViewTells.B3 100 l _ ag s i) _
    unfold hocketlaw14_ViewTells.B3
    have out : Sat (hocketlaw14_ViewTells.J5 100 l i s ag (fun v => hocketlaw14_ViewTells.J2 100 raw k v) false) (fun _ => True) := by
      unfold hocketlaw14_ViewTells.J5
      exact sat_f (by simp) (j2 k s (by omega))
    refine sat_if (fun hlt => ?_) (fun _ => out)
    by_cases hi : i < 9
    · rw [decide_eq_true hi]
      unfold hocketlaw14_ViewTells.J5
      refine sat_t rfl ?_
      obtain ⟨t, ht⟩ : ∃ t, ix l i = some t := ⟨_, ix_get h0 (by omega)⟩
      refine sat_b ht (sat_b ht (sat_bs (msg_ok _ _) (fun m _ => ?_)))
      unfold hocketlaw14_ViewTells.J6
      refine sat_b ht (sat_b (app_eq (by simp only [List.length_singleton]; omega)) ?_)
      rw [w64_id (n := i + 1) (by omega)]
      exact hag _ ⟨by simp only; omega, by simp only; omega, by simp; omega⟩ (by simp only; omega)
    · rw [decide_eq_false hi]
      exact out
  refine sat_loop (fun v : Int × Int × Int × Int => (2 - v.2.2.2).toNat) (fun v => 0 ≤ v.2.2.2 ∧ v.2.2.2 ≤ 2) ?_ 100 _ ⟨by simp, by simp⟩ (by simp only; omega)
  rintro ⟨p, q, k, i⟩ ⟨h0, h1⟩ ag hag
  simp only at h0 h1
  show Sat (hocketlaw14_ViewTells.B4 100 _ ag p q k i) _
  unfold hocketlaw14_ViewTells.B4
  refine sat_if (fun hlt => ?_) (fun _ => j1 k)
  obtain ⟨t1, t2⟩ : ∃ r, view_Next.f p q = some r ∧ hocketref11_Next.f p q = some r := ⟨_, rfl, rfl⟩
  obtain ⟨t3, t4⟩ : ∃ r, view_Who.f p = some r ∧ hocketref11_Who.f p = some r := by
    refine ⟨_, rfl, ?_⟩
    unfold hocketref11_Who.f
    rw [band_m (mx p 0) 7 3 rfl (by decide), Int.tmod_eq_emod_of_nonneg (by rw [mx_eq]; omega)]
    rfl
  obtain ⟨t5, t6⟩ := most_any p k
  obtain ⟨t7, t8⟩ := after_eq p q
  obtain ⟨t9, t10⟩ : ∃ r, view_Limit.f q = some r ∧ hocketref11_Limit.f q = some r := ⟨_, rfl, rfl⟩
  refine sat_b t2.1 (sat_b t2.2 (sat_t rfl (sat_b t4.1 (sat_b t4.2 (sat_t rfl (sat_b (members_eq p) (sat_b (membersr_eq p) ?_)))))))
  have hm := memI_len p 7
  refine sat_b (same_ints (by omega) (by omega)) (sat_t (by simp) (sat_b t6.1 (sat_b t6.2 (sat_t rfl (sat_b t8.1 (sat_b t8.2 (sat_t rfl (sat_b t10.1 (sat_b t10.2 ?_)))))))))
  unfold hocketlaw14_ViewTells.J7
  refine sat_f (by simp) ?_
  rw [w64_id (by omega : -9223372036854775808 ≤ i + 1 ∧ i + 1 ≤ 9223372036854775807)]
  exact hag _ ⟨by simp only; omega, by simp only; omega⟩ (by simp only; omega)
end Go.Gp
