/- What the statements say, of the plain functions. -/
import Derived.Test.YtabedbggldnkhaaDefs
import Derived.Test.YtabedbggldnkhaaLe
import Derived.Test.YtabedbggldnkhaaThInts
import Derived.Test.YtabedbggldnkhaaThView
import Derived.Test.YtabedbggldnkhaaThView2
import Derived.Test.YtabedbggldnkhaaThMsg
import Derived.Test.YtabedbggldnkhaaThGath
/- Layer 18: a view has one set of members. -/
namespace Go.Gp
open Go
theorem awake18 : hocketlaw18_awake.f 100 = some () := by decide +kernel
theorem same_refl {m : api_Msg} (h1 : m.Have.length < 100) (h2 : m.Need.length < 100) : hocketref11_Same.f 100 m m = some true := by
  unfold hocketref11_Same.f hocketref4_SameEntry.f
  simp only [if_true]
  rw [same_ints h1 (by omega), same_ints h2 (by omega)]
  simp
theorem nodeN (n : Int) : ∃ k : Nat, w64 ((Int.tmod (band .i64 n 255) 7) + 1) = (k : Int) ∧ 1 ≤ k ∧ k ≤ 7 := by
  have hb : band .i64 n 255 = n % 256 := band_m n 255 8 rfl (by decide)
  rw [hb]
  have ht := tmod_nn (x := n % 256) (y := 7) (by omega) (by omega)
  exact ⟨((n % 256).tmod 7 + 1).toNat, by rw [w64_id (by omega)]; omega, by omega, by omega⟩
theorem nodes_id {k : Nat} (h1 : 1 ≤ k) (h7 : k ≤ 7) : nodes (k : Int) = k := by unfold nodes; simp only [mn_eq, mx_eq]; omega
/-- What holds of it whatever comes. -/
structure GO (n c m r : Nat) (g : gath_Gather) : Prop where
  gi : GI n c g
  mem : g.commit.Members = m
  ml : m < 128
  rdy : g.ready = r
  rl : r < 128
theorem GO.ready {n c m r : Nat} {g : gath_Gather} (h : GO n c m r g) (k : Int) : ∃ b r' g', gath_Gather_Ready.f 100 g.n g.id g.v g.l g.come g.ready g.commit.Kind g.commit.From g.commit.To g.commit.View g.commit.Inst g.commit.Len g.commit.Has g.commit.Members g.commit.Source g.commit.At g.commit.Total g.commit.Data g.commit.Hop g.commit.Seq g.commit.Have g.commit.Need g.commit.Index g.commit.Entry.Sess g.commit.Entry.Seq g.commit.Entry.Cmd.Kind g.commit.Entry.Cmd.Who g.commit.Entry.Cmd.Key g.commit.Entry.Cmd.Val g.commit.Entry.Cmd.Old g.is k = some (b, tG g') ∧ GO n c m r' g' ∧ g'.l = g.l ∧ g'.is = g.is ∧ g'.commit = g.commit := by
  by_cases hk : ReadyOk m r g k
  · refine ⟨true, _, _, ready_yes h.ml h.rl h.mem h.rdy hk, ⟨⟨h.gi.n1, h.gi.n7, h.gi.hn, h.gi.hc, h.gi.lt, h.gi.len⟩, h.mem, h.ml, rfl, ?_⟩, rfl, rfl, rfl⟩
    have := hk.2.2.1
    have := hk.2.1
    exact or_lt (n := 7) h.rl (by omega)
  · exact ⟨false, r, g, ready_no h.ml h.rl h.mem h.rdy hk, h, rfl, rfl, rfl⟩
theorem firsts_lt {n : Nat} (hn : n ≤ 7) {l : List api_Msg} (hl : l.length < 100) : (firstsF n l).2 < 128 :=
  Nat.lt_of_lt_of_le (firstsF_inv n l (by omega)).lt (Nat.pow_le_pow_right (by decide) hn : 2 ^ n ≤ 2 ^ 7)
theorem GO.commit {n c m r : Nat} {g : gath_Gather} (h : GO n c m r g) : ∃ e b m' g', gath_Gather_Commit.f 100 g.n g.id g.v g.l g.come g.ready g.commit.Kind g.commit.From g.commit.To g.commit.View g.commit.Inst g.commit.Len g.commit.Has g.commit.Members g.commit.Source g.commit.At g.commit.Total g.commit.Data g.commit.Hop g.commit.Seq g.commit.Have g.commit.Need g.commit.Index g.commit.Entry.Sess g.commit.Entry.Seq g.commit.Entry.Cmd.Kind g.commit.Entry.Cmd.Who g.commit.Entry.Cmd.Key g.commit.Entry.Cmd.Val g.commit.Entry.Cmd.Old g.is = some (e, b, tG g') ∧ GO n c m' r g' ∧ g'.l = g.l := by
  have hl := h.gi.len
  have hn7 := h.gi.n7
  rcases Bool.eq_false_or_eq_true g.is with his | his
  · exact ⟨_, _, m, g, commit_was his, h, rfl⟩
  · obtain ⟨q, q1, q2⟩ := choose_eq (K := 100) (l := g.l) (by omega) (by omega) g.n
    rw [h.gi.hn, nodes_id h.gi.n1 h.gi.n7] at q2
    rcases q2 with ⟨q2, _⟩ | ⟨b, q2, q3, _⟩
    · exact ⟨_, _, m, g, commit_no his q1 (by rw [q2]), h, rfl⟩
    · refine ⟨_, _, (firstsF n g.l).2, _, commit_yes his q1 (by rw [q3]), ⟨⟨h.gi.n1, h.gi.n7, h.gi.hn, h.gi.hc, h.gi.lt, h.gi.len⟩, by rw [q3]; rfl, firsts_lt hn7 (by omega), h.rdy, h.rl⟩, rfl⟩
theorem hocketlaw18_GathOnce.pure (n : Int) (l more : List Int) {o0 : Prop} (_ : o0) (_h : l.length ≤ 140737488351232 ∧ ∀ x ∈ l, i64ok x) (_h2 : more.length ≤ 140737488351232 ∧ ∀ x ∈ more, i64ok x) : ∃ K r, hocketlaw18_GathOnce.f K n l more = some r := by
  refine ⟨100, sat_pure ?_⟩
  obtain ⟨k, hk, hk1, hk7⟩ := nodeN n
  unfold hocketlaw18_GathOnce.f
  rw [hk]
  refine sat_b (new_eq (n := k) (i := 0) (by omega) hk7 8 _) ?_
  refine sat_loop (fun v : Int × Int × gath_Gather => (10 - v.2.1).toNat) (fun v => 0 ≤ v.2.1 ∧ v.2.1 ≤ 10 ∧ ∃ c : Nat, v.1 = c ∧ GO k c 0 0 v.2.2 ∧ v.2.2.v = 8 ∧ v.2.2.is = false ∧ firstsF k v.2.2.l = (v.2.2.l, c) ∧ (v.2.2.l.length : Int) ≤ v.2.1 + 1) ?_ 100 _ ⟨by simp, by simp, 1, rfl, ⟨GI.new (i := 0) (n := k) (by omega) hk7 8 ⟨2, 0, 0, 8, 0, 0, true, 0, 0, 0, 0, ([] : List UInt8), 0, 0, ([] : List Int), ([] : List Int), 0, (⟨0, 0, (⟨0, 0, ([] : List UInt8), ([] : List UInt8), ([] : List UInt8)⟩ : api_Cmd)⟩ : api_Entry)⟩, rfl, by decide, rfl, by decide⟩, rfl, rfl, ?_, by simp [newG]⟩ (by simp only; omega)
  · rintro ⟨cc, i, g⟩ ⟨h0, h1, c, hc, hg, hv, his, hf, hl⟩ ag hag
    simp only at h0 h1 hc hg hv his hf hl
    subst hc
    show Sat (hocketlaw18_GathOnce.B2 100 l _ ag (c : Int) i g) _
    unfold hocketlaw18_GathOnce.B2
    have fin : Sat (hocketlaw18_GathOnce.J1 100 more n (c : Int) g) (fun _ => True) := by
      unfold hocketlaw18_GathOnce.J1
      have hlen := hg.gi.len
      -- what comes behind, once it was told or not
      have loop : ∀ (a : api_Msg) (ok : Bool) (g2 : gath_Gather) (m2 : Nat), GO k c m2 0 g2 → (g2.l.length : Int) ≤ 20 → (ok = true → g2.is = true ∧ g2.commit = a ∧ a.Have.length < 100 ∧ a.Need.length < 100) → Sat (hocketlaw18_GathOnce.J2 100 (a, ok, tG g2) (c : Int) n) (fun _ => True) → Sat (hocketlaw18_GathOnce.L1 100 more (a, ok, tG g2) (fun v => hocketlaw18_GathOnce.J2 100 (a, ok, tG g2) (c : Int) n) 100 (0, g2)) (fun _ => True) := fun a ok g2 m2 hg2 hl2 hok hend => by
        refine sat_loop (fun v : Int × gath_Gather => (10 - v.1).toNat) (fun v => 0 ≤ v.1 ∧ v.1 ≤ 10 ∧ ∃ c' m' r' : Nat, GO k c' m' r' v.2 ∧ (v.2.l.length : Int) ≤ 20 + v.1 ∧ (ok = true → v.2.is = true ∧ v.2.commit = a)) ?_ 100 _ ⟨by simp, by simp, c, m2, 0, hg2, by simp only; omega, fun h => ⟨(hok h).1, (hok h).2.1⟩⟩ (by simp only; omega)
        rintro ⟨j, g3⟩ ⟨j0, j1, c', m', r', hg3, hl3, hok3⟩ ag3 hag3
        simp only at j0 j1 hg3 hl3 hok3
        show Sat (hocketlaw18_GathOnce.B1 100 more _ _ ag3 j g3) _
        unfold hocketlaw18_GathOnce.B1
        refine sat_if (fun hlt => ?_) (fun _ => ?_)
        · by_cases hj : j < 10
          · rw [decide_eq_true hj]
            unfold hocketlaw18_GathOnce.J3
            obtain ⟨t, ht⟩ : ∃ t, ix more j = some t := ⟨_, ix_get j0 (by omega)⟩
            have hw1 : w64 (j + 1) = j + 1 := w64_id (by omega)
            refine sat_t rfl (sat_b ht ?_)
            have four : ∀ (b : Bool) (c4 : Nat) (g4 : gath_Gather), GO k c4 m' r' g4 → (g4.l.length : Int) ≤ 21 + j → (ok = true → g4.is = true ∧ g4.commit = a) → Sat (hocketlaw18_GathOnce.J4 100 more j (b, tG g4) (a, ok, tG g2) ag3 false) (fun _ => True) := fun b c4 g4 hg4 hl4 hok4 => by
              unfold hocketlaw18_GathOnce.J4
              refine sat_f (by simp) (sat_b ht ?_)
              obtain ⟨b5, r5, g5, e5, hg5, hl5, his5, hc5⟩ := hg4.ready (band .i64 (shr .i64 t 3) 7)
              refine sat_b e5 ?_
              cases hokv : ok with
              | true =>
                obtain ⟨k1, k2⟩ := hok4 hokv
                obtain ⟨_, _, k3, k4⟩ := hok hokv
                refine sat_b (commit_was (g := g5) (by rw [his5]; exact k1)) (sat_t rfl (sat_t rfl ?_))
                dsimp only
                rw [hc5, k2]
                refine sat_b (same_refl k3 k4) ?_
                unfold hocketlaw18_GathOnce.J5
                refine sat_f (by simp) ?_
                rw [hw1]
                exact hag3 (_, g5) ⟨by simp only; omega, by simp only; omega, c4, m', r5, hg5, by simp only; rw [hl5]; omega, fun _ => ⟨by rw [his5]; exact k1, by rw [hc5]; exact k2⟩⟩ (by simp only; omega)
              | false =>
                obtain ⟨e6, b6, m6, g6, q6, hg6, hl6⟩ := hg5.commit
                refine sat_b q6 (sat_f (by simp) ?_)
                unfold hocketlaw18_GathOnce.J5
                refine sat_f (by simp) ?_
                rw [hw1]
                exact hag3 (_, g6) ⟨by simp only; omega, by simp only; omega, c4, m6, r5, hg6, by simp only; rw [hl6, hl5]; omega, fun h => by rw [hokv] at h; cases h⟩ (by simp only; omega)
            obtain ⟨msg, hmsg⟩ : ∃ msg : api_Msg, msg = ⟨2, band .i64 t 7, 0, 8, 800, 99, true, 0, 0, 0, 0, ([] : List UInt8), 0, 0, ([] : List Int), ([] : List Int), 0, (⟨0, 0, (⟨0, 0, ([] : List UInt8), ([] : List UInt8), ([] : List UInt8)⟩ : api_Cmd)⟩ : api_Entry)⟩ := ⟨_, rfl⟩
            rw [← hmsg]
            by_cases hto : TakeOk k c' g3 msg
            · refine sat_b (take_yes hg3.gi hto) (sat_t rfl ?_)
              have hnok : ok = false := by
                cases hh : ok with
                | false => rfl
                | true => have := (hok3 hh).1; rw [hto.1] at this; cases this
              rw [hnok]
              have hgt := hg3.gi.take hto (by omega)
              have := four true _ (takeG g3 c' msg) ⟨hgt, hg3.mem, hg3.ml, hg3.rdy, hg3.rl⟩ (by unfold takeG; simp only [List.length_append, List.length_singleton]; omega) (fun h => by rw [hnok] at h; cases h)
              rw [hnok] at this
              exact this
            · refine sat_b (take_no hg3.gi hto) (sat_f (by simp) ?_)
              exact four false c' g3 hg3 (by omega) hok3
          · rw [decide_eq_false hj]
            unfold hocketlaw18_GathOnce.J3
            exact sat_f (by simp) hend
        · unfold hocketlaw18_GathOnce.J3
          exact sat_f (by simp) hend
      obtain ⟨q, q1, q2⟩ := choose_eq (K := 100) (l := g.l) (by omega) (by omega) g.n
      rw [hg.gi.hn, nodes_id hg.gi.n1 hg.gi.n7] at q2
      unfold Chosen at q2
      rw [hf] at q2
      rcases q2 with ⟨q2, _⟩ | ⟨b, q2, q3, q4⟩
      · refine sat_b (commit_no his q1 (by rw [q2])) (loop _ _ g 0 hg (by omega) (fun h => by cases h) ?_)
        unfold hocketlaw18_GathOnce.J2
        exact sat_f (by simp) (sat_b awake18 (sat_r trivial))
      · have hc7 := hg.gi.c7
        refine sat_b (commit_yes his q1 (by rw [q3])) (loop _ _ (commitG g q) c ⟨⟨hg.gi.n1, hg.gi.n7, hg.gi.hn, hg.gi.hc, hg.gi.lt, hg.gi.len⟩, by rw [q3]; rfl, hc7, hg.rdy, by decide⟩ (by show (g.l.length : Int) ≤ 20; omega) (fun _ => ⟨rfl, rfl, by simp [cmsg], by simp [cmsg]⟩) ?_)
        unfold hocketlaw18_GathOnce.J2
        have inv := firstsF_inv k g.l (by omega)
        rw [hf] at inv
        have hb := inv.mem b q2.1
        obtain ⟨f, hbf⟩ : ∃ f : Nat, b.From = f := ⟨b.From.toNat, by omega⟩
        rw [q3]
        refine sat_t rfl (sat_t rfl ?_)
        rw [hk]
        refine sat_b (mostr_eq (by omega) _) ?_
        rw [nodes_id hg.gi.n1 hg.gi.n7, q4]
        refine sat_t rfl (sat_t ?_ (sat_t hv (sat_b awake18 (sat_r trivial))))
        show band .i64 (shr .i64 (c : Int) (wu64 b.From)) 1 = 1
        have hbb := hb.2.2.2
        rw [hbf, Int.toNat_natCast] at hbb
        rw [hbf, wu_id (by omega) (by omega)]
        have := bit_eq hc7 (show f < 7 by omega)
        rw [hbb] at this
        simpa using this
    have out : Sat (hocketlaw18_GathOnce.J6 100 l i g ag (c : Int) (fun v => hocketlaw18_GathOnce.J1 100 more n v.1 v.2) false) (fun _ => True) := by
      unfold hocketlaw18_GathOnce.J6
      exact sat_f (by simp) fin
    refine sat_if (fun hlt => ?_) (fun _ => out)
    by_cases hi : i < 10
    · rw [decide_eq_true hi]
      unfold hocketlaw18_GathOnce.J6
      obtain ⟨t, ht⟩ : ∃ t, ix l i = some t := ⟨_, ix_get h0 (by omega)⟩
      have hw1 : w64 (i + 1) = i + 1 := w64_id (by omega)
      refine sat_t rfl (sat_b ht (sat_b ht (sat_b ht (sat_b ht ?_))))
      obtain ⟨msg, hmsg⟩ : ∃ msg : api_Msg, msg = ⟨2, band .i64 t 7, 0, 8, w64 ((band .i64 (shr .i64 t 3) 3) * 8), band .i64 (shr .i64 t 5) 31, ((band .i64 (shr .i64 t 10) 1) == 1), 0, 0, 0, 0, ([] : List UInt8), 0, 0, ([] : List Int), ([] : List Int), 0, (⟨0, 0, (⟨0, 0, ([] : List UInt8), ([] : List UInt8), ([] : List UInt8)⟩ : api_Cmd)⟩ : api_Entry)⟩ := ⟨_, rfl⟩
      rw [← hmsg]
      by_cases hto : TakeOk k c g msg
      · refine sat_b (take_yes hg.gi hto) (sat_t rfl ?_)
        have hgt := hg.gi.take hto (by omega)
        obtain ⟨_, z2, z3, z4, z5, z6⟩ := hto
        have hmf : msg.From = band .i64 t 7 := by rw [hmsg]
        have hc7 := hg.gi.c7
        obtain ⟨f, hf'⟩ : ∃ f : Nat, band .i64 t 7 = f := ⟨(band .i64 t 7).toNat, by omega⟩
        rw [hmf, hf', Int.toNat_natCast] at hgt
        rw [hf', wu_id (by omega) (by omega), or_bit hc7 (by omega), hw1]
        refine hag (_, _, takeG g c msg) ⟨by simp only; omega, by simp only; omega, c ||| 2 ^ f, rfl, ⟨hgt, hg.mem, by decide, hg.rdy, by decide⟩, hv, his, ?_, ?_⟩ (by simp only; omega)
        · show firstsF k (g.l ++ [msg]) = (g.l ++ [msg], c ||| 2 ^ f)
          rw [firstsF_snoc, hf]
          unfold stepF
          rw [if_pos ⟨z2, z4, z5, z6⟩, hmf, hf', Int.toNat_natCast]
        · unfold takeG; simp only [List.length_append, List.length_singleton]; omega
      · refine sat_b (take_no hg.gi hto) (sat_f (by simp) ?_)
        rw [hw1]
        exact hag (_, _, g) ⟨by simp only; omega, by simp only; omega, c, rfl, hg, hv, his, hf, by simp only; omega⟩ (by simp only; omega)
    · rw [decide_eq_false hi]
      exact out
  · show firstsF k [_] = _
    unfold firstsF
    simp only [List.foldl_cons, List.foldl_nil, newG]
    unfold stepF
    rw [if_pos ⟨rfl, by simp, by simp only; omega, by simp⟩]
    rfl
end Go.Gp
