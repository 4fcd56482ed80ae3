/- What the statements say, of the plain functions. -/
import Derived.Test.YtdfhpaojkmnnfaaDefs
import Derived.Test.YtdfhpaojkmnnfaaLe
import Derived.Test.YtdfhpaojkmnnfaaThInts
import Derived.Test.YtdfhpaojkmnnfaaThView
/- Views: whom the document chooses. -/
namespace Go.Gp
open Go
/-- The row of those that came, by their numbers. -/
structure RI (n : Nat) (out : List api_Msg) (c : Nat) (come : List api_Msg) : Prop where
  len : come.length = 7
  of : ∀ m ∈ out, come[m.From.toNat]? = some m
  to : ∀ i : Nat, c.testBit i = true → ∃ m ∈ out, m.From = i ∧ come[i]? = some m
theorem chooser_eq {l : List api_Msg} (hl : l.length < 100) (x : Int) : Sat (hocketref11_Choose.f 100 l x) (Chosen (nodes x) l) := by
  obtain ⟨hn, hn1, hn7⟩ := nodes_eq x
  unfold hocketref11_Choose.f
  have inv0 := firstsF_inv (nodes x) l (by omega)
  have two : ∀ come, RI (nodes x) (firstsF (nodes x) l).1 (firstsF (nodes x) l).2 come → Sat (hocketref11_Choose.J1 100 x ((firstsF (nodes x) l).2 : Int) (topF (firstsF (nodes x) l).1).2 come) (Chosen (nodes x) l) := fun come hR => by
    have hc : (firstsF (nodes x) l).2 < 128 := Nat.lt_of_lt_of_le inv0.lt (Nat.pow_le_pow_right (by decide) hn7 : 2 ^ nodes x ≤ 2 ^ 7)
    unfold Chosen
    generalize firstsF (nodes x) l = s at *
    obtain ⟨out, c⟩ := s
    simp only at *
    unfold hocketref11_Choose.J1
    refine sat_loop (fun v : Int × Int => ((nodes x : Int) - v.2).toNat) (fun v => ∃ i : Nat, v.2 = i ∧ i ≤ nodes x ∧ ((v.1 = -1 ∧ ∀ m ∈ out, m.From < i → ¬ Cand out m) ∨ (∃ b ∈ out, v.1 = b.From ∧ b.From < i ∧ Cand out b ∧ ∀ m ∈ out, m.From < i → Cand out m → Over b m))) ?_ 100 _ ⟨0, rfl, by omega, .inl ⟨rfl, fun m hm h => by have := (inv0.mem m hm).2.1; omega⟩⟩ (by simp only; omega)
    rintro ⟨src, j⟩ ⟨i, h1, h2, h3⟩ ag hag
    simp only at h1 h2 h3
    subst h1
    show Sat (hocketref11_Choose.B1 100 x c come _ _ ag src i) _
    unfold hocketref11_Choose.B1
    dsimp only
    refine sat_if (fun hlt => ?_) (fun hge => ?_)
    · have hi : i < nodes x := by omega
      have hw : w64 ((i : Int) + 1) = ((i + 1 : Nat) : Int) := by rw [w64_succ (by omega) (by omega)]; simp
      have hbit : (band .i64 (shr .i64 (c : Int) (wu64 (i : Int))) 1 = 1) ↔ c.testBit i = true := by
        rw [wu_id (by omega) (by omega), ← bit_eq hc (by omega)]; simp
      have at_ : ∀ m ∈ out, m.From < (i + 1 : Nat) → m.From < i ∨ (c.testBit i = true ∧ come[i]? = some m) := fun m hm h => by
        have k1 := inv0.mem m hm
        by_cases he : m.From = i
        · have k2 := hR.of m hm
          rw [he] at k2 k1
          exact .inr ⟨k1.2.2.2, k2⟩
        · exact .inl (by omega)
      have skip : (∀ m, come[i]? = some m → c.testBit i = true → Cand out m → ∃ b ∈ out, src = b.From ∧ Over b m) → Sat (hocketref11_Choose.J4 100 ag i src false) _ := fun hs => by
        unfold hocketref11_Choose.J4
        refine sat_f (by simp) (hag _ ⟨i + 1, hw, by omega, ?_⟩ (by simp only; rw [hw]; omega))
        simp only
        rcases h3 with ⟨k1, k2⟩ | ⟨b, k0, k1, k2, k3, k4⟩
        · refine .inl ⟨k1, fun m hm hf hcm => ?_⟩
          rcases at_ m hm hf with h | ⟨h, h'⟩
          · exact k2 m hm h hcm
          · obtain ⟨b, hb, hsb, _⟩ := hs m h' h hcm
            have := (inv0.mem b hb).2.1
            omega
        · refine .inr ⟨b, k0, k1, by omega, k3, fun m hm hf hcm => ?_⟩
          rcases at_ m hm hf with h | ⟨h, h'⟩
          · exact k4 m hm h hcm
          · obtain ⟨d, hd, hsd, ho⟩ := hs m h' h hcm
            have e1 := hR.of b k0
            have e2 := hR.of d hd
            rw [show b.From = d.From by omega] at e1
            rw [e1] at e2
            cases e2
            exact ho
      by_cases hb : c.testBit i = true
      · refine sat_t (hbit.2 hb) ?_
        obtain ⟨m, hm, hmf, hmc⟩ := hR.to i hb
        have hix : ix come (i : Int) = some m := ix_eq (by omega) (by simpa using hmc)
        refine sat_b hix ?_
        have no : ¬ Cand out m → Sat (hocketref11_Choose.J4 100 ag i src false) _ := fun hnc => skip (fun m' h' _ hcm => by rw [hmc] at h'; cases h'; exact absurd hcm hnc)
        refine sat_if (fun c1 => ?_) (fun c1 => no (fun h => c1 h.1))
        refine sat_b hix ?_
        refine sat_if (fun c2 => ?_) (fun c2 => no (fun h => c2 h.2))
        have put : (∀ b ∈ out, src = b.From → b.Len < m.Len) → Sat (hocketref11_Choose.J4 100 ag i src true) _ := fun hp => by
          unfold hocketref11_Choose.J4
          refine sat_t rfl (hag _ ⟨i + 1, hw, by omega, ?_⟩ (by simp only; rw [hw]; omega))
          simp only
          refine .inr ⟨m, hm, hmf.symm, by omega, ⟨c1, c2⟩, fun m' hm' hf hcm => ?_⟩
          rcases at_ m' hm' hf with h | ⟨h, h'⟩
          · rcases h3 with ⟨k1, k2⟩ | ⟨b, k0, k1, k2, k3, k4⟩
            · exact absurd hcm (k2 m' hm' h)
            · have e1 := k4 m' hm' h hcm
              have e2 := hp b k0 k1
              unfold Over at *
              omega
          · rw [hmc] at h'; cases h'; unfold Over; omega
        refine sat_if (fun c3 => put (fun b hb hs => by have := (inv0.mem b hb).2.1; omega)) (fun c3 => ?_)
        refine sat_b hix ?_
        rcases h3 with ⟨k1, k2⟩ | ⟨b, k0, k1, k2, k3, k4⟩
        · omega
        · have hb0 := (inv0.mem b k0).2.1
          have e1 := hR.of b k0
          refine sat_b (ix_eq (by omega) (by rw [k1]; exact e1)) ?_
          by_cases g : m.Len > b.Len
          · rw [decide_eq_true g]
            exact put (fun d hd hs => by
              have e2 := hR.of d hd
              rw [show d.From = b.From by omega, e1] at e2
              cases e2
              exact g)
          · rw [decide_eq_false g]
            exact skip (fun m' h' _ hcm => by
              rw [hmc] at h'
              cases h'
              exact ⟨b, k0, k1, by unfold Over; omega⟩)
      · exact sat_f (fun h => hb (hbit.1 h)) (skip (fun m h1 h2 => absurd h2 hb))
    · have : i = nodes x := by omega
      subst this
      unfold hocketref11_Choose.J2
      rcases h3 with ⟨k1, k2⟩ | ⟨b, k0, k1, k2, k3, k4⟩
      · refine sat_t (by omega) ?_
        unfold hocketref11_Choose.J3
        exact sat_t rfl (sat_r (.inl ⟨rfl, .inl (fun m hm => k2 m hm (inv0.mem m hm).2.2.1)⟩))
      · have hb0 := inv0.mem b k0
        refine sat_f (by omega) (sat_b (mostr_eq (by omega) _) ?_)
        have e : nodes (mn (mx x 1) 7) = nodes x := by unfold nodes; simp only [mn_eq, mx_eq]; omega
        rw [e]
        unfold hocketref11_Choose.J3
        cases hm : mostN c (nodes x) with
        | false => exact sat_t (by simp) (sat_r (.inl ⟨rfl, .inr rfl⟩))
        | true =>
          refine sat_f (by simp) (sat_b (ix_eq (by omega) (by rw [k1]; exact hR.of b k0)) (sat_r (.inr ⟨b, ⟨k0, k3, fun m hm hcm => k4 m hm (inv0.mem m hm).2.2.1 hcm⟩, by rw [k1], rfl⟩)))
  refine sat_loop (fun v : Int × Int × List api_Msg × Int => (l.length - v.2.2.2).toNat) (fun v => ∃ i : Nat, v.2.2.2 = i ∧ i ≤ l.length ∧ v.1 = ((firstsF (nodes x) (l.take i)).2 : Int) ∧ v.2.1 = (topF (firstsF (nodes x) (l.take i)).1).2 ∧ RI (nodes x) (firstsF (nodes x) (l.take i)).1 (firstsF (nodes x) (l.take i)).2 v.2.2.1) ?_ 100 _ ⟨0, rfl, by omega, rfl, rfl, ⟨by simp, by simp [firstsF], by simp [firstsF]⟩⟩ (by simp only; omega)
  rintro ⟨mk, tp, come, j⟩ ⟨i, h1, h2, h3, h4, h5⟩ ag hag
  simp only at h1 h2 h3 h4 h5
  subst h1 h3 h4
  show Sat (hocketref11_Choose.B2 100 l x _ ag _ _ come i) _
  unfold hocketref11_Choose.B2
  dsimp only
  refine sat_if (fun hlt => ?_) (fun hge => ?_)
  · have hi : i < l.length := by omega
    refine sat_b (ix_get (by omega) (by simpa using hi)) ?_
    simp only [Int.toNat_natCast]
    have inv := firstsF_inv (nodes x) (l.take i) (by simp only [List.length_take]; omega)
    have hc : (firstsF (nodes x) (l.take i)).2 < 128 := Nat.lt_of_lt_of_le inv.lt (Nat.pow_le_pow_right (by decide) hn7 : 2 ^ nodes x ≤ 2 ^ 7)
    have snoc := firstsF_snoc (nodes x) (l.take i) l[i]
    rw [← take_snoc hi] at snoc
    have hone := topF_one (firstsF (nodes x) (l.take i)).1
    generalize firstsF (nodes x) (l.take i) = s at *
    have hw : w64 ((i : Int) + 1) = ((i + 1 : Nat) : Int) := by rw [w64_succ (by omega) (by omega)]; simp
    have skip : ¬ takes (nodes x) s.2 l[i] → Sat (hocketref11_Choose.J5 100 ag s.2 (topF s.1).2 come i l[i] true) (Chosen (nodes x) l) := fun ht => by
      unfold hocketref11_Choose.J5
      have e : firstsF (nodes x) (l.take (i + 1)) = s := by rw [snoc]; unfold stepF; rw [if_neg ht]
      exact sat_t rfl (hag _ ⟨i + 1, hw, by omega, by rw [e], by rw [e], by rw [e]; exact h5⟩ (by simp only; rw [hw]; omega))
    refine sat_if (fun k1 => ?_) (fun k1 => skip (fun ht => k1 ht.1))
    refine sat_if (fun k2 => skip (fun ht => by have := ht.2.1; omega)) (fun k2 => ?_)
    refine sat_if (fun k3 => skip (fun ht => by have := ht.2.2.1; omega)) (fun k3 => ?_)
    obtain ⟨f, hf⟩ : ∃ f : Nat, l[i].From = f := ⟨l[i].From.toNat, by omega⟩
    rw [hf, wu_id (by omega) (by omega), bit_eq hc (by omega)]
    cases hb : s.2.testBit f with
    | true => exact skip (fun ht => by have := ht.2.2.2; rw [hf, Int.toNat_natCast, hb] at this; cases this)
    | false =>
      have ht : takes (nodes x) s.2 l[i] := ⟨k1, by omega, by omega, by rw [hf, Int.toNat_natCast, hb]⟩
      have e : firstsF (nodes x) (l.take (i + 1)) = (s.1 ++ [l[i]], s.2 ||| 2 ^ f) := by rw [snoc]; unfold stepF; rw [if_pos ht, hf]; rfl
      have htop : topF (s.1 ++ [l[i]]) = stepT (topF s.1) l[i] := topF_snoc _ _
      unfold hocketref11_Choose.J5
      refine sat_f (by simp) ?_
      rw [hf, wu_id (by omega) (by omega), or_bit hc (by omega), shl_bit (by omega)]
      have seven : ∀ tp, tp = (topF (s.1 ++ [l[i]])).2 → Sat (hocketref11_Choose.J7 100 come l[i] ag s.2 i tp) (Chosen (nodes x) l) := fun tp htp => by
        unfold hocketref11_Choose.J7
        have h57 := h5.len
        refine sat_b (ix_get (by omega) (by rw [hf]; simp; omega)) ?_
        rw [hf, wu_id (by omega) (by omega), or_bit hc (by omega)]
        refine hag _ ⟨i + 1, hw, by omega, by rw [e], by rw [e]; exact htp, ?_⟩ (by simp only; rw [hw]; omega)
        rw [e]
        refine ⟨by simp [h57], fun m hm => ?_, fun q hq => ?_⟩
        · simp only [List.mem_append, List.mem_singleton] at hm
          rcases hm with hm | rfl
          · have k := inv.mem m hm
            have hne : f ≠ m.From.toNat := fun h => by rw [h] at hb; rw [hb] at k; exact absurd k.2.2.2 (by simp)
            simp only [Int.toNat_natCast]
            rw [List.getElem?_set_ne hne]
            exact h5.of m hm
          · simp only [hf, Int.toNat_natCast]
            exact List.getElem?_set_self (by omega)
        · simp only [testBit_or_pow, Bool.or_eq_true, decide_eq_true_eq] at hq
          by_cases hqf : f = q
          · subst hqf
            refine ⟨l[i], by simp, hf, ?_⟩
            simp only [Int.toNat_natCast]
            exact List.getElem?_set_self (by omega)
          · obtain ⟨m, hm, h1, h2⟩ := h5.to q (by simpa [hqf] using hq)
            refine ⟨m, by simp [hm], h1, ?_⟩
            simp only [Int.toNat_natCast]
            rw [List.getElem?_set_ne hqf]
            exact h2
      have six : ∀ q : Bool, (q = true ↔ ((topF s.1).1 = false ∨ (topF s.1).2 < l[i].Inst)) → Sat (hocketref11_Choose.J6 100 come l[i] ag s.2 i (topF s.1).2 q) (Chosen (nodes x) l) := fun q hq => by
        unfold hocketref11_Choose.J6
        refine sat_if (fun hp => seven _ ?_) (fun hp => seven _ ?_)
        · rw [htop]; unfold stepT; rw [if_pos (hq.1 hp)]
        · rw [htop]; unfold stepT; rw [if_neg (fun h => hp (hq.2 h))]
      by_cases hnil : s.1 = []
      · have hz := inv.nil hnil
        rw [hz]
        refine sat_t (by simp) ?_
        rw [← hz]
        rw [hz] at six ⊢
        exact six true (by rw [hone, hnil]; simp)
      · have hz := inv.pos hnil
        refine sat_f (fun h => hz ?_) (six _ ?_)
        · have h : s.2 ||| 2 ^ f = 2 ^ f := by exact_mod_cast h
          apply Nat.eq_of_testBit_eq
          intro q
          have := congrArg (fun n => n.testBit q) h
          simp only [testBit_or_pow, Nat.testBit_two_pow] at this
          by_cases hqf : f = q
          · subst hqf; simp [hb]
          · simpa [hqf] using this
        · have : (topF s.1).1 = true := by rw [hone]; cases hs : s.1 with | nil => exact absurd hs hnil | cons => rfl
          rw [this]; simp
  · have : i = l.length := by omega
    subst this
    rw [List.take_length] at h5 ⊢
    exact two come h5
end Go.Gp
