/- What the statements say, of the plain functions. -/
import Derived.Test.YteojmbigbifklaaDefs
import Derived.Test.YteojmbigbifklaaLe
import Derived.Test.YteojmbigbifklaaThInts
import Derived.Test.YteojmbigbifklaaThLock
/- Layer 6: a lock with those who wait. -/
namespace Go.Gp
open Go
theorem awake6 {K : Nat} (hK : 100 ≤ K) : hocketlaw6_awake.f K = some () := by
  unfold hocketlaw6_awake.f
  rw [take_lock (by simp; omega) (by simp)]
  simp only [Option.bind_some]
  rw [show takeS [] 7 = ([7], ⟨0, [], 0⟩) by decide, take_lock (by simp; omega) (by simp)]
  simp only [Option.bind_some]
  rw [show takeS [7] 3 = ([7, 3], ⟨0, [], 1⟩) by decide, take_lock (by simp; omega) (by simp)]
  simp only [Option.bind_some]
  rw [free_lock (by simp; omega) (by simp)]
  simp only [Option.bind_some]
  rw [show takeS [7, 3] 7 = ([7, 3], ⟨6, [], 0⟩) by decide, show freeS [7, 3] 7 = ([3], ⟨0, [], 3⟩) by decide]
  simp only [if_true]
  rw [same_ints (by simp; omega) (by simp)]
  rfl
theorem hocketlaw6_LockForms.pure (which : Int) {o0 : Prop} (_ : o0) : ∃ K r, hocketlaw6_LockForms.f K which = some r := by
  refine ⟨100, (), ?_⟩
  have hb : band .i64 which 255 = which % 256 := band_m which 255 8 rfl (by decide)
  unfold hocketlaw6_LockForms.f
  rw [hb, rem_eq (by decide)]
  simp only [List.length_cons, List.length_nil]
  have ht := tmod_nn (x := which % 256) (y := 14) (by omega) (by omega)
  rw [show ((0 + 1 + 1 + 1 + 1 + 1 + 1 + 1 + 1 + 1 + 1 + 1 + 1 + 1 + 1 : Nat) : Int) = 14 by decide]
  generalize (which % 256).tmod 14 = i at ht ⊢
  have : i = 0 ∨ i = 1 ∨ i = 2 ∨ i = 3 ∨ i = 4 ∨ i = 5 ∨ i = 6 ∨ i = 7 ∨ i = 8 ∨ i = 9 ∨ i = 10 ∨ i = 11 ∨ i = 12 ∨ i = 13 := by omega
  rcases this with rfl | rfl | rfl | rfl | rfl | rfl | rfl | rfl | rfl | rfl | rfl | rfl | rfl | rfl <;> decide +kernel
theorem turns6_congr {x y : Int} (h : Int.tmod (band .i64 x 255) 5 = Int.tmod (band .i64 y 255) 5) : hocketlaw6_LockTurns.f 100 x = hocketlaw6_LockTurns.f 100 y := by
  simp only [hocketlaw6_LockTurns.f, hocketlaw6_LockTurns.L2, hocketlaw6_LockTurns.B2, hocketlaw6_LockTurns.J1, hocketlaw6_LockTurns.L1, hocketlaw6_LockTurns.B1, hocketlaw6_LockTurns.J3, h]
theorem hocketlaw6_LockTurns.pure (n : Int) {o0 : Prop} (_ : o0) : ∃ K r, hocketlaw6_LockTurns.f K n = some r := by
  refine ⟨100, (), ?_⟩
  have hb : band .i64 n 255 = n % 256 := band_m n 255 8 rfl (by decide)
  have ht := tmod_nn (x := n % 256) (y := 5) (by omega) (by omega)
  have : (n % 256).tmod 5 = 0 ∨ (n % 256).tmod 5 = 1 ∨ (n % 256).tmod 5 = 2 ∨ (n % 256).tmod 5 = 3 ∨ (n % 256).tmod 5 = 4 := by omega
  rcases this with h | h | h | h | h
  · rw [turns6_congr (y := 0) (by rw [hb, h]; decide)]; decide +kernel
  · rw [turns6_congr (y := 1) (by rw [hb, h]; decide)]; decide +kernel
  · rw [turns6_congr (y := 2) (by rw [hb, h]; decide)]; decide +kernel
  · rw [turns6_congr (y := 3) (by rw [hb, h]; decide)]; decide +kernel
  · rw [turns6_congr (y := 4) (by rw [hb, h]; decide)]; decide +kernel
theorem hocketlaw6_LockOwn.pure (l : List Int) (a b : Int) (_h0 : l.length ≤ 140737488351232 ∧ ∀ x ∈ l, i64ok x) {o1 o2 : Prop} (_ : o1) (_ : o2) : ∃ K r, hocketlaw6_LockOwn.f K l a b = some r := by
  refine ⟨100, sat_pure ?_⟩
  unfold hocketlaw6_LockOwn.f
  have out : ∀ s : List Int, s.length ≤ 5 → Sat (hocketlaw6_LockOwn.J1 100 a b s) (fun _ => True) := fun s hs => by
    unfold hocketlaw6_LockOwn.J1
    refine sat_b (app_eq (by simp; omega)) (sat_b (take_lock (by omega) (by omega) _) (sat_b (free_lock (by omega) (by omega) _) ?_))
    have l1 := takeS_len s (band .i64 a 15) 5 (by omega) hs
    have l2 := freeS_len s (band .i64 b 15) 5 hs
    generalize takeS s (band .i64 a 15) = t at l1 ⊢
    generalize freeS s (band .i64 b 15) = u at l2 ⊢
    refine sat_loop (fun v : List Int × Int => (t.1.length - v.2).toNat) (fun v => 0 ≤ v.2 ∧ v.1.length = t.1.length) ?_ 100 _ ⟨by simp, rfl⟩ (by simp only; omega)
    rintro ⟨q, i⟩ ⟨h0, hq⟩ ag hag
    simp only at h0 hq
    show Sat (hocketlaw6_LockOwn.B2 100 t _ ag q i) _
    unfold hocketlaw6_LockOwn.B2
    refine sat_if (fun c1 => ?_) (fun _ => ?_)
    · refine sat_b (ix_get h0 (by omega)) ?_
      rw [w64_id (by omega)]
      exact hag _ ⟨by simp only; omega, by simp only [List.length_set]; exact hq⟩ (by simp only; omega)
    · unfold hocketlaw6_LockOwn.J2
      refine sat_loop (fun v : List Int × Int => (u.1.length - v.2).toNat) (fun v => 0 ≤ v.2 ∧ v.1.length = u.1.length) ?_ 100 _ ⟨by simp, rfl⟩ (by simp only; omega)
      rintro ⟨p, i⟩ ⟨h0, hp⟩ ag hag
      simp only at h0 hp
      show Sat (hocketlaw6_LockOwn.B1 100 u _ ag p i) _
      unfold hocketlaw6_LockOwn.B1
      refine sat_if (fun c1 => ?_) (fun _ => ?_)
      · refine sat_b (ix_get h0 (by omega)) ?_
        rw [w64_id (by omega)]
        exact hag _ ⟨by simp only; omega, by simp only [List.length_set]; exact hp⟩ (by simp only; omega)
      · unfold hocketlaw6_LockOwn.J3
        refine sat_b (app_eq (by simp; omega)) (sat_b (app_eq (by simp; omega)) (sat_b (same_ints (by omega) (by omega)) (sat_t (by simp) (sat_t ?_ (sat_b (awake6 (by decide)) (sat_r trivial))))))
        simp only [List.length_append, List.length_cons, List.length_nil]
        rw [w64_id (by omega)]
        omega
  refine sat_loop (fun v : List Int × Int => (20 - v.2).toNat) (fun v => 0 ≤ v.2 ∧ v.1.length ≤ 5) ?_ 100 _ ⟨by simp, by simp⟩ (by simp)
  rintro ⟨s, i⟩ ⟨h0, hs⟩ ag hag
  simp only at h0 hs
  have out4 : Sat (hocketlaw6_LockOwn.J4 100 l i s ag (fun v => hocketlaw6_LockOwn.J1 100 a b v) false) (fun _ => True) := by
    unfold hocketlaw6_LockOwn.J4
    exact sat_f (by simp) (out s hs)
  show Sat (hocketlaw6_LockOwn.B3 100 l _ ag s i) _
  unfold hocketlaw6_LockOwn.B3
  refine sat_if (fun c1 => ?_) (fun _ => out4)
  unfold hocketlaw6_LockOwn.J4
  refine sat_if (fun c2 => ?_) (fun _ => out s hs)
  have hi : i < 20 := of_decide_eq_true c2
  refine sat_b (ix_get h0 (by omega)) (sat_b (take_lock (by omega) (by omega) _) ?_)
  rw [w64_id (by omega)]
  exact hag _ ⟨by simp only; omega, takeS_len _ _ 5 (by omega) hs⟩ (by simp only; omega)
theorem hocketlaw6_LockPlays.pure (acts s : List Int) (few : Bool) (_h0 : acts.length ≤ 140737488351232 ∧ ∀ x ∈ acts, i64ok x) (h1 : s.length ≤ 140737488351232 ∧ ∀ x ∈ s, i64ok x) : ∃ K r, hocketlaw6_LockPlays.f K acts s few = some r := by
  have hsl := h1.1
  obtain ⟨K, hK⟩ : ∃ K, K = s.length + 1000 := ⟨_, rfl⟩
  refine ⟨K, sat_pure ?_⟩
  have aw := awake6 (K := K) (by omega)
  have main : ∀ t : List Int, t.length ≤ 12 → Sat (hocketlaw6_LockPlays.J2 K acts few t) (fun _ => True) := fun t ht => by
    unfold hocketlaw6_LockPlays.J2
    refine sat_loop (fun v : List Int × List Int × Int => (50 - v.2.2).toNat) (fun v => 0 ≤ v.2.2 ∧ v.1 = v.2.1 ∧ v.1.length ≤ 12) ?_ K _ ⟨by simp, rfl, ht⟩ (by simp only; omega)
    rintro ⟨t, w, i⟩ ⟨h0, e, ht⟩ ag hag
    simp only at h0 e ht
    subst e
    have out : Sat (hocketlaw6_LockPlays.J4 K acts i few t t ag (fun v => hocketlaw6_LockPlays.J3 K) false) (fun _ => True) := by
      unfold hocketlaw6_LockPlays.J4 hocketlaw6_LockPlays.J3
      exact sat_f (by simp) (sat_b aw (sat_r trivial))
    show Sat (hocketlaw6_LockPlays.B1 K acts few _ ag t t i) _
    unfold hocketlaw6_LockPlays.B1
    refine sat_if (fun c1 => ?_) (fun _ => out)
    unfold hocketlaw6_LockPlays.J4
    refine sat_if (fun c2 => ?_) (fun _ => by unfold hocketlaw6_LockPlays.J3; exact sat_b aw (sat_r trivial))
    have hi : i < 50 := of_decide_eq_true c2
    have j6 : ∀ (q : List Int) (r : api_Result), q.length ≤ 12 → Sat (hocketlaw6_LockPlays.J6 K ag i q q r r) (fun _ => True) := fun q r hq => by
      unfold hocketlaw6_LockPlays.J6
      refine sat_b (same_result r r) (sat_t (by simp) (sat_b (same_ints (by omega) (by omega)) (sat_t (by simp) (sat_b (owner_lock q) (sat_b (rowner q) (sat_b (same_result _ _) ?_))))))
      unfold hocketlaw6_LockPlays.J7
      rw [w64_id (by omega)]
      exact sat_f (by simp) (hag _ ⟨by simp only; omega, rfl, hq⟩ (by simp only; omega))
    have j5 : ∀ who, Sat (hocketlaw6_LockPlays.J5 K acts i t t ag who) (fun _ => True) := fun who => by
      unfold hocketlaw6_LockPlays.J5
      refine sat_b (ix_get h0 (by omega)) (sat_if (fun _ => ?_) (fun _ => ?_))
      · exact sat_b (take_lock (by omega) (by omega) _) (sat_b (rtake (by omega) (by omega) _) (j6 _ _ (takeS_len _ _ 12 (by omega) ht)))
      · exact sat_b (free_lock (by omega) (by omega) _) (sat_b (rfree (by omega) (by omega) _) (j6 _ _ (freeS_len _ _ 12 ht)))
    exact sat_b (ix_get h0 (by omega)) (sat_if (fun _ => j5 _) (fun _ => j5 _))
  have j1 : Sat (hocketlaw6_LockPlays.J1 K s acts few) (fun _ => True) := by
    unfold hocketlaw6_LockPlays.J1
    exact sat_if (fun _ => main _ (by simp)) (fun h => main _ (by omega))
  unfold hocketlaw6_LockPlays.f
  refine sat_loop (fun v : Int => (s.length - v).toNat) (fun v => 0 ≤ v) ?_ K _ (by simp) (by omega)
  intro i h0 ag hag
  show Sat (hocketlaw6_LockPlays.B2 K s _ ag i) _
  unfold hocketlaw6_LockPlays.B2
  refine sat_if (fun c1 => ?_) (fun _ => j1)
  refine sat_loop (fun v : Int => (12 - v).toNat) (fun v => 0 ≤ v) ?_ K _ (by simp) (by omega)
  intro k k0 ag2 hag2
  have j8 : Sat (hocketlaw6_LockPlays.J8 K ag i) (fun _ => True) := by
    unfold hocketlaw6_LockPlays.J8
    rw [w64_id (by omega)]
    exact hag _ (by omega) (by omega)
  have out : Sat (hocketlaw6_LockPlays.J9 K s i k ag2 (fun v => hocketlaw6_LockPlays.J8 K ag i) false) (fun _ => True) := by
    unfold hocketlaw6_LockPlays.J9
    exact sat_f (by simp) j8
  show Sat (hocketlaw6_LockPlays.B3 K i s _ ag2 k) _
  unfold hocketlaw6_LockPlays.B3
  refine sat_if (fun c2 => ?_) (fun _ => out)
  unfold hocketlaw6_LockPlays.J9
  refine sat_if (fun c3 => ?_) (fun _ => j8)
  have hk : k < 12 := of_decide_eq_true c3
  refine sat_b (ix_get h0 (by omega)) (sat_b (ix_get k0 (by omega)) (sat_if (fun _ => sat_b aw (sat_r trivial)) (fun _ => ?_)))
  rw [w64_id (by omega)]
  exact hag2 _ (by omega) (by omega)
theorem nodup_erase {who : Int} : ∀ (s : List Int) (k : Nat), s.Nodup → s[k]? = some who → s.erase who = s.take k ++ s.drop (k + 1)
  | [], k, _, h => by simp at h
  | x :: s, 0, _, h => by
    have : x = who := by simpa using h
    subst this
    simp
  | x :: s, k + 1, hn, h => by
    have h1 : s[k]? = some who := by simpa using h
    have h2 := List.nodup_cons.1 hn
    have h3 : x ≠ who := fun e => h2.1 (e ▸ List.mem_of_getElem? h1)
    rw [List.erase_cons_tail (by simpa using h3), nodup_erase s k h2.2 h1]
    rfl
theorem hocketlaw6_LockOne.pure (acts : List Int) (_h0 : acts.length ≤ 140737488351232 ∧ ∀ x ∈ acts, i64ok x) : ∃ K r, hocketlaw6_LockOne.f K acts = some r := by
  refine ⟨100, sat_pure ?_⟩
  unfold hocketlaw6_LockOne.f
  have aw := awake6 (K := 100) (by omega)
  refine sat_loop (fun v : List Int × List Int × Int => (60 - v.2.2).toNat) (fun v => 0 ≤ v.2.2 ∧ v.1 = v.2.1 ∧ v.1.length ≤ 5 ∧ v.1.Nodup) ?_ 100 _ ⟨by simp, rfl, by simp, by simp⟩ (by simp)
  rintro ⟨s, w, i⟩ ⟨h0, e, hs, hnd⟩ ag hag
  simp only at h0 e hs hnd
  subst e
  have out : Sat (hocketlaw6_LockOne.J2 100 acts i s s ag (fun v => hocketlaw6_LockOne.J1 100) false) (fun _ => True) := by
    unfold hocketlaw6_LockOne.J2 hocketlaw6_LockOne.J1
    exact sat_f (by simp) (sat_b aw (sat_r trivial))
  show Sat (hocketlaw6_LockOne.B1 100 acts _ ag s s i) _
  unfold hocketlaw6_LockOne.B1
  refine sat_if (fun c1 => ?_) (fun _ => out)
  unfold hocketlaw6_LockOne.J2
  refine sat_if (fun c2 => ?_) (fun _ => by unfold hocketlaw6_LockOne.J1; exact sat_b aw (sat_r trivial))
  have hi : i < 60 := of_decide_eq_true c2
  obtain ⟨t, ht⟩ : ∃ t, ix acts i = some t := ⟨_, ix_get h0 (by omega)⟩
  refine sat_b ht ?_
  obtain ⟨who, hwho⟩ : ∃ who, who = band .i64 (shr .i64 t 1) 7 := ⟨_, rfl⟩
  have j4 : ∀ q : List Int, q.length ≤ 5 → q.Nodup → Sat (hocketlaw6_LockOne.J4 100 ag i q q) (fun _ => True) := fun q hq hnd => by
    have j5 : ∀ b : Bool, b = false → Sat (hocketlaw6_LockOne.J5 100 ag q q i b) (fun _ => True) := fun b hb => by
      unfold hocketlaw6_LockOne.J5
      rw [w64_id (by omega)]
      exact sat_f (by simp [hb]) (hag _ ⟨by simp only; omega, rfl, hq, hnd⟩ (by simp only; omega))
    unfold hocketlaw6_LockOne.J4
    refine sat_b (owner_lock q) (sat_b (same_ints (by omega) (by omega)) (sat_t (by simp) ?_))
    cases q with
    | nil => exact sat_f (by simp) (j5 _ (by decide))
    | cons a r => exact sat_t (by simp) (sat_b (ix_eq (x := a) (by omega) rfl) (sat_t rfl (j5 _ (by simp [ownerS]))))
  have j3 : ∀ at_ : Int, (at_ = -1 ∧ who ∉ s ∨ ∃ k : Nat, at_ = k ∧ s[k]? = some who) → Sat (hocketlaw6_LockOne.J3 100 acts i s t s ag at_) (fun _ => True) := fun at_ hat => by
    unfold hocketlaw6_LockOne.J3
    rw [← hwho]
    refine sat_b ht (sat_if (fun _ => ?_) (fun _ => ?_))
    · refine sat_b (take_lock (by omega) (by omega) _) ?_
      have hl := takeS_len s who 5 (by omega) hs
      have j6 : ∀ b : Bool, b = false → ((takeS s who).2.Err = 0 → s ++ [who] = (takeS s who).1 ∧ (takeS s who).1.Nodup) → ((takeS s who).2.Err ≠ 0 → s = (takeS s who).1) → Sat (hocketlaw6_LockOne.J6 100 (takeS s who) s t ag i b) (fun _ => True) := fun b hb e1 e2 => by
        unfold hocketlaw6_LockOne.J6
        rw [← hwho]
        refine sat_f (by simp [hb]) (sat_if (fun he => ?_) (fun he => ?_))
        · obtain ⟨g1, g2⟩ := e1 he
          refine sat_b (app_eq (by simp; omega)) ?_
          rw [g1]
          exact j4 _ hl g2
        · have g := e2 he
          rw [← g]
          exact j4 _ hs hnd
      rcases hat with ⟨rfl, hn⟩ | ⟨k, rfl, hk⟩
      · refine sat_t (by omega) ?_
        by_cases h5 : 5 ≤ s.length
        · have e : takeS s who = (s, ⟨3, [], 0⟩) := by unfold takeS; rw [if_neg hn, if_pos h5]
          refine j6 _ ?_ (fun h => ?_) (fun h => ?_)
          · rw [e, decide_eq_false (by omega)]; rfl
          · rw [e] at h; cases h
          · rw [e]
        · have e : takeS s who = (s ++ [who], ⟨0, [], s.length⟩) := by unfold takeS; rw [if_neg hn, if_neg h5]
          refine j6 _ ?_ (fun h => ?_) (fun h => ?_)
          · rw [e, decide_eq_true (by omega)]; rfl
          · rw [e]
            refine ⟨rfl, ?_⟩
            simp only
            rw [List.nodup_append]
            refine ⟨hnd, by simp, fun a ha b hb => ?_⟩
            rw [List.mem_singleton] at hb
            subst hb
            exact fun hab => hn (hab ▸ ha)
          · rw [e] at h; exact absurd rfl h
      · have hm : who ∈ s := List.mem_of_getElem? hk
        have e : takeS s who = (s, ⟨6, [], 0⟩) := by unfold takeS; rw [if_pos hm]
        refine sat_f (by omega) (j6 _ ?_ (fun h => ?_) (fun h => ?_))
        · rw [e]; rfl
        · rw [e] at h; cases h
        · rw [e]
    · refine sat_b (free_lock (by omega) (by omega) _) ?_
      have hl := freeS_len s who 5 hs
      rcases hat with ⟨rfl, hn⟩ | ⟨k, rfl, hk⟩
      · have e : freeS s who = (s, ⟨5, [], 0⟩) := by unfold freeS; rw [if_neg hn]
        rw [e]
        exact sat_t rfl (sat_f (by omega) (j4 _ hs hnd))
      · have hm : who ∈ s := List.mem_of_getElem? hk
        have hlt : k < s.length := (List.getElem?_eq_some_iff.1 hk).1
        have e : freeS s who = (s.erase who, ⟨0, [], (s.erase who).headD (-1)⟩) := by unfold freeS; rw [if_pos hm]
        rw [e]
        refine sat_t (by rw [decide_eq_true (by omega)]; rfl) (sat_t (by omega) (sat_b (cut_eq ⟨by omega, by omega, by omega⟩) ?_))
        rw [w64_id (by omega)]
        refine sat_b (cut_eq ⟨by omega, by omega, by omega⟩) (sat_b (app_eq (by simp; omega)) (sat_b (app_eq (by simp; omega)) ?_))
        have hw : s[k] = who := (List.getElem?_eq_some_iff.1 hk).2
        have er : s.erase who = s.take k ++ s.drop (k + 1) := nodup_erase s k hnd hk
        have eq2 : [] ++ (s.take (k : Int).toNat).drop (0 : Int).toNat ++ (s.take (s.length : Int).toNat).drop ((k : Int) + 1).toNat = s.erase who := by
          rw [er, Int.toNat_natCast, Int.toNat_natCast, List.take_length, show ((k : Int) + 1).toNat = k + 1 by omega]
          rfl
        rw [eq2]
        have hl2 : (s.erase who).length ≤ 5 := by rw [e] at hl; exact hl
        exact j4 _ hl2 (hnd.erase who)
  refine sat_loop (fun v : Int × Int => (5 - v.2).toNat) (fun v => 0 ≤ v.2 ∧ v.2 ≤ s.length ∧ (v.1 = -1 ∧ who ∉ s.take v.2.toNat ∨ ∃ k : Nat, v.1 = k ∧ s[k]? = some who)) ?_ 100 _ ⟨by simp, by simp, .inl ⟨rfl, by simp⟩⟩ (by simp)
  rintro ⟨at_, k⟩ ⟨k0, kl, hat⟩ ag2 hag2
  simp only at k0 kl hat
  show Sat (hocketlaw6_LockOne.B2 100 s t _ ag2 at_ k) _
  unfold hocketlaw6_LockOne.B2
  rw [← hwho]
  refine sat_if (fun c3 => ?_) (fun c3 => ?_)
  · have hk : k.toNat < s.length := by omega
    rw [w64_id (by omega)]
    refine sat_b (ix_get k0 hk) (sat_if (fun he => ?_) (fun he => ?_))
    · exact hag2 _ ⟨by simp only; omega, by simp only; omega, .inr ⟨k.toNat, by simp only; omega, by rw [List.getElem?_eq_getElem hk, he]⟩⟩ (by simp only; omega)
    · refine hag2 _ ⟨by simp only; omega, by simp only; omega, ?_⟩ (by simp only; omega)
      rcases hat with ⟨h1, h2⟩ | h1
      · refine .inl ⟨h1, ?_⟩
        simp only
        rw [show (k + 1).toNat = k.toNat + 1 by omega, ← List.take_append_getElem hk]
        intro hm
        rcases List.mem_append.1 hm with h | h
        · exact h2 h
        · rw [List.mem_singleton] at h; exact he h.symm
      · exact .inr h1
  · have hk : k = s.length := by omega
    subst hk
    rw [Int.toNat_natCast, List.take_length] at hat
    exact j3 _ hat
end Go.Gp
