/- What the statements say, of the plain functions. -/
import Derived.Test.YtploijfgnnkddaaDefs
import Derived.Test.YtploijfgnnkddaaLe
import Derived.Test.YtploijfgnnkddaaThInts
import Derived.Test.YtploijfgnnkddaaThPack
import Derived.Test.YtploijfgnnkddaaThMesg
import Derived.Test.YtploijfgnnkddaaThMesg2
import Derived.Test.YtploijfgnnkddaaThMesg3
import Derived.Test.YtploijfgnnkddaaThMesg4
import Derived.Test.YtploijfgnnkddaaThMesg5
import Derived.Test.YtploijfgnnkddaaThMesg6
import Derived.Test.YtploijfgnnkddaaThMsg
import Derived.Test.YtploijfgnnkddaaThMesg7
import Derived.Test.YtploijfgnnkddaaThMesg8
import Derived.Test.YtploijfgnnkddaaThMesgS
import Derived.Test.YtploijfgnnkddaaGpCrc
import Derived.Test.YtploijfgnnkddaaThCrc
import Derived.Test.YtploijfgnnkddaaThFram
import Derived.Test.YtploijfgnnkddaaThPack1
import Derived.Test.YtploijfgnnkddaaThMesg9
import Derived.Test.YtploijfgnnkddaaThMesg10
import Derived.Test.YtploijfgnnkddaaThRows
import Derived.Test.YtploijfgnnkddaaThMach
import Derived.Test.YtploijfgnnkddaaThMach2
import Derived.Test.YtploijfgnnkddaaThMach3
import Derived.Test.YtploijfgnnkddaaThMach4
import Derived.Test.YtploijfgnnkddaaThBlob
import Derived.Test.YtploijfgnnkddaaThBlob2
/- The machine that entries of numbers come to: it may be. -/
namespace Go.Gp
open Go
theorem own_eq {x : List UInt8} (h : x.length ≤ 1000000000) : hocketref4_own.f x = some x := by
  unfold hocketref4_own.f
  rw [app_eq (by simp; omega)]
  simp
theorem res1_eq {r : api_Result} (h : r.Val.length ≤ 1000000000) : hocketref4_result.f r = some r := by
  unfold hocketref4_result.f
  rw [own_eq h]
  rfl
/-- A loop that copies a row. -/
theorem copy_iter {α β : Type} {f : (List α × Int → Option β) → List α × Int → Option β} {xs : List α} {g : List α → Option β}
    (step : ∀ ag (i : Nat) (h : i < xs.length) (c : List α), c.length = i → f ag (c, (i : Int)) = ag (c ++ [xs[i]], ((i + 1 : Nat) : Int)))
    (fin : ∀ ag (c : List α), f ag (c, (xs.length : Int)) = g c) :
    ∀ (n i K : Nat) (c : List α), i + n = xs.length → n < K → c.length = i → iter f K (c, (i : Int)) = g (c ++ xs.drop i) := by
  intro n
  induction n with
  | zero =>
    intro i K c hi hK hc
    obtain ⟨k, rfl⟩ : ∃ k, K = k + 1 := ⟨K - 1, by omega⟩
    rw [iter_succ, show i = xs.length by omega, fin, List.drop_length]
    simp
  | succ n ih =>
    intro i K c hi hK hc
    obtain ⟨k, rfl⟩ : ∃ k, K = k + 1 := ⟨K - 1, by omega⟩
    have h : i < xs.length := by omega
    rw [iter_succ, step _ _ h _ hc, ih (i + 1) k _ (by omega) (by omega) (by simp [hc]), List.drop_eq_getElem_cons h]
    simp
theorem rows1_eq {K : Nat} {xs : List (List UInt8)} (hK : xs.length < K) (hx : xs.length ≤ 1000000) (h : ∀ x ∈ xs, x.length ≤ 1000000) : hocketref4_rows.f K xs = some xs := by
  unfold hocketref4_rows.f hocketref4_rows.L1
  have := copy_iter (xs := xs) (f := fun again v => hocketref4_rows.B1 K xs (fun v => hocketref4_rows.J1 K v) again v.1 v.2) (g := fun v => hocketref4_rows.J1 K v) (fun ag i h' c hc => by
    simp only
    unfold hocketref4_rows.B1
    have hx := h _ (List.getElem_mem h')
    rw [if_pos (by omega), ix_get (by omega) (by simpa using h')]
    simp only [Option.bind_some, Int.toNat_natCast]
    rw [own_eq (by omega)]
    simp only [Option.bind_some]
    rw [app_eq (by simp only [List.length_singleton]; omega)]
    simp only [Option.bind_some]
    rw [w64_succN (by omega)]) (fun ag c => by
    simp only
    unfold hocketref4_rows.B1
    rw [if_neg (by omega)]) xs.length 0 K [] (by omega) hK rfl
  refine Eq.trans this ?_
  simp [hocketref4_rows.J1]
theorem pairs1_eq {K : Nat} {xs : List api_Pair} (hK : xs.length < K) (hx : xs.length ≤ 1000000) (h : ∀ x ∈ xs, OkPair x) : hocketref4_pairs.f K xs = some xs := by
  unfold hocketref4_pairs.f hocketref4_pairs.L1
  have := copy_iter (xs := xs) (f := fun again v => hocketref4_pairs.B1 K xs (fun v => hocketref4_pairs.J1 K v) again v.1 v.2) (g := fun v => hocketref4_pairs.J1 K v) (fun ag i h' c hc => by
    simp only
    unfold hocketref4_pairs.B1
    have hx := h _ (List.getElem_mem h')
    obtain ⟨hx1, hx2⟩ := hx
    rw [if_pos (by omega), ix_get (by omega) (by simpa using h')]
    simp only [Option.bind_some, Int.toNat_natCast]
    rw [own_eq (by omega)]
    simp only [Option.bind_some]
    rw [own_eq (by omega)]
    simp only [Option.bind_some]
    rw [app_eq (by simp only [List.length_singleton]; omega)]
    simp only [Option.bind_some]
    rw [w64_succN (by omega)]) (fun ag c => by
    simp only
    unfold hocketref4_pairs.B1
    rw [if_neg (by omega)]) xs.length 0 K [] (by omega) hK rfl
  refine Eq.trans this ?_
  simp [hocketref4_pairs.J1]
theorem table1_eq {K : Nat} {xs : List api_Last} (hK : xs.length < K) (hx : xs.length ≤ 1000000) (h : ∀ x ∈ xs, x.Result.Val.length ≤ 1000000) : hocketref4_table.f K xs = some xs := by
  unfold hocketref4_table.f hocketref4_table.L1
  have := copy_iter (xs := xs) (f := fun again v => hocketref4_table.B1 K xs (fun v => hocketref4_table.J1 K v) again v.1 v.2) (g := fun v => hocketref4_table.J1 K v) (fun ag i h' c hc => by
    simp only
    unfold hocketref4_table.B1
    have hx := h _ (List.getElem_mem h')
    rw [if_pos (by omega), ix_get (by omega) (by simpa using h')]
    simp only [Option.bind_some, Int.toNat_natCast]
    rw [res1_eq (by omega)]
    simp only [Option.bind_some]
    rw [app_eq (by simp only [List.length_singleton]; omega)]
    simp only [Option.bind_some]
    rw [w64_succN (by omega)]) (fun ag c => by
    simp only
    unfold hocketref4_table.B1
    rw [if_neg (by omega)]) xs.length 0 K [] (by omega) hK rfl
  refine Eq.trans this ?_
  simp [hocketref4_table.J1]
/-! ### results, and what they are of -/
def OkRes (r : api_Result) : Prop := (0 ≤ r.Err ∧ r.Err ≤ 10) ∧ (-1 ≤ r.N ∧ r.N ≤ 1073741824) ∧ r.Val.length ≤ 16
theorem bad_ok {e : Int} (h : 0 ≤ e ∧ e ≤ 10) : OkRes ⟨e, [], 0⟩ := ⟨h, by simp, by simp⟩
structure OkO (o : api_Objects) : Prop where
  ob : OkObj o
  l : o.Lock.Nodup
  p : o.Map.Pairwise (fun a b => slt a.Key b.Key = true)
theorem write_ok {s v : List UInt8} (hs : s.length ≤ 16) (hv : v.length ≤ 1000000) : Sat (hocketref4_Write.f s v) (fun r => r.1.length ≤ 16 ∧ OkRes r.2) := by
  unfold hocketref4_Write.f
  refine sat_if (fun _ => sat_b (own_eq (by omega)) (sat_b rfl (sat_r ⟨hs, bad_ok (by omega)⟩))) (fun h => sat_b (own_eq (by omega)) (sat_r ⟨by simp only; omega, bad_ok (by omega)⟩))
theorem cas_ok {s o v : List UInt8} (hs : s.length ≤ 16) (hv : v.length ≤ 1000000) : Sat (hocketref4_Cas.f s o v) (fun r => r.1.length ≤ 16 ∧ OkRes r.2) := by
  unfold hocketref4_Cas.f
  refine sat_if (fun _ => sat_b (own_eq (by omega)) (sat_b rfl (sat_r ⟨hs, bad_ok (by omega)⟩))) (fun h => sat_if (fun _ => sat_b (own_eq (by omega)) (sat_r ⟨by simp only; omega, bad_ok (by omega)⟩)) (fun _ => ?_))
  exact sat_b (own_eq (by omega)) (sat_b (own_eq (by omega)) (sat_r ⟨hs, ⟨by simp, by simp, hs⟩⟩))
def OkQ (q : List (List UInt8)) : Prop := (q.length : Int) ≤ 8 ∧ ∀ x ∈ q, x.length ≤ 16
theorem push_ok {K : Nat} (hK : 150 ≤ K) {s : List (List UInt8)} {v : List UInt8} (hs : OkQ s) (hv : v.length ≤ 1000000) : Sat (hocketref4_Push.f K s v) (fun r => OkQ r.1 ∧ OkRes r.2) := by
  obtain ⟨h1, h2⟩ := hs
  have hr := rows1_eq (K := K) (xs := s) (by omega) (by omega) (fun x hx => by have := h2 x hx; omega)
  unfold hocketref4_Push.f
  refine sat_if (fun _ => sat_b hr (sat_b rfl (sat_r ⟨⟨h1, h2⟩, bad_ok (by omega)⟩))) (fun hl => sat_if (fun _ => sat_b hr (sat_b rfl (sat_r ⟨⟨h1, h2⟩, bad_ok (by omega)⟩))) (fun hl2 => ?_))
  refine sat_b hr (sat_b (own_eq (by omega)) (sat_b (app_eq (by simp only [List.length_singleton]; omega)) (sat_r ⟨⟨by simp; omega, fun x hx => ?_⟩, ⟨by simp, ?_, by simp⟩⟩)))
  · rcases List.mem_append.1 hx with hx | hx
    · exact h2 x hx
    · obtain rfl := List.mem_singleton.1 hx; omega
  · simp only; rw [w64_id (by omega)]; omega
theorem pop_ok {K : Nat} (hK : 150 ≤ K) {s : List (List UInt8)} (hs : OkQ s) : Sat (hocketref4_Pop.f K s) (fun r => OkQ r.1 ∧ OkRes r.2) := by
  obtain ⟨h1, h2⟩ := hs
  unfold hocketref4_Pop.f
  refine sat_if (fun _ => sat_b rfl (sat_r ⟨⟨by simp, by simp⟩, bad_ok (by omega)⟩)) (fun h0 => ?_)
  have hl : 0 < s.length := by omega
  refine sat_b (cut_eq ⟨by omega, by omega, by omega⟩) (sat_b (ix_get (by omega) (by simp; omega)) ?_)
  simp only [Int.toNat_natCast, List.take_length]
  have hx := h2 _ (List.getElem_mem hl)
  refine sat_b (rows1_eq (by rw [List.length_drop]; omega) (by rw [List.length_drop]; omega) (fun x hx => by have := h2 x (List.mem_of_mem_drop hx); omega)) (sat_b (own_eq (by simp only [Int.toNat_zero]; omega)) (sat_r ⟨⟨by simp; omega, fun x hx => h2 x (List.mem_of_mem_drop hx)⟩, ⟨by simp, by simp, by simp only [Int.toNat_zero]; omega⟩⟩))
structure OkL (l : List Int) : Prop where
  n : (l.length : Int) ≤ 5
  r : ∀ x ∈ l, 0 ≤ x ∧ x ≤ 999
  d : l.Nodup
theorem take_ok {K : Nat} (hK : 150 ≤ K) {s : List Int} (hs : OkL s) {w : Int} (hw : 0 ≤ w ∧ w ≤ 999) : Sat (hocketref4_Take.f K s w) (fun r => OkL r.1 ∧ OkRes r.2) := by
  have h1 := hs.n
  unfold hocketref4_Take.f
  refine sat_b (app_eq (by simp; omega)) (sat_b (place_eq (by omega) (by omega) _) ?_)
  rw [List.nil_append]
  refine sat_if (fun _ => sat_b rfl (sat_r ⟨hs, bad_ok (by omega)⟩)) (fun hp => sat_if (fun _ => sat_b rfl (sat_r ⟨hs, bad_ok (by omega)⟩)) (fun hl => ?_))
  refine sat_b (app_eq (by simp only [List.length_singleton]; omega)) (sat_r ⟨⟨by simp; omega, fun x hx => ?_, ?_⟩, ⟨by simp, by simp only; omega, by simp⟩⟩)
  · rcases List.mem_append.1 hx with hx | hx
    · exact hs.r x hx
    · obtain rfl := List.mem_singleton.1 hx; exact hw
  · have hn : w ∉ s := by
      rcases posn_cases s w with ⟨_, h⟩ | ⟨i, h, _⟩
      · exact h
      · omega
    rw [List.nodup_append]
    refine ⟨hs.d, by simp, fun a ha b hb e => ?_⟩
    obtain rfl := List.mem_singleton.1 hb
    exact hn (e ▸ ha)
theorem free_ok {K : Nat} (hK : 150 ≤ K) {s : List Int} (hs : OkL s) {w : Int} : Sat (hocketref4_Free.f K s w) (fun r => OkL r.1 ∧ OkRes r.2) := by
  have h1 := hs.n
  unfold hocketref4_Free.f
  refine sat_b (place_eq (by omega) (by omega) _) ?_
  rcases posn_cases s w with ⟨hp, _⟩ | ⟨i, hp, hi, _, _, he⟩
  · rw [hp]
    refine sat_t (by omega) (sat_b (app_eq (by simp; omega)) (sat_b rfl (sat_r ⟨by rw [List.nil_append]; exact hs, bad_ok (by omega)⟩)))
  · rw [hp]
    refine sat_f (by omega) (sat_b (cut_eq ⟨by omega, by omega, by omega⟩) ?_)
    rw [w64_succN (by omega)]
    refine sat_b (cut_eq ⟨by omega, by omega, by omega⟩) ?_
    simp only [Int.toNat_natCast, Int.toNat_zero, List.drop_zero, List.take_length]
    refine sat_b (app_eq (by simp only [List.length_nil, List.length_take]; omega)) (sat_b (app_eq (by simp only [List.nil_append, List.length_take, List.length_drop]; omega)) ?_)
    rw [List.nil_append, he]
    have hsub := List.erase_sublist (a := w) (l := s)
    have hle := hsub.length_le
    refine sat_if (fun _ => sat_r ⟨⟨by simp, by simp, by simp⟩, ⟨by simp, by simp, by simp⟩⟩) (fun h0 => ?_)
    have hl : 0 < (s.erase w).length := by omega
    refine sat_b (ix_get (by omega) (by simp; omega)) (sat_r ⟨⟨by simp only; omega, fun x hx => hs.r x (hsub.subset hx), hs.d.sublist hsub⟩, ⟨by simp, ?_, by simp⟩⟩)
    have := hs.r _ (hsub.subset (List.getElem_mem hl))
    simp only [Int.toNat_zero]
    omega
theorem owner_ok {s : List Int} (hs : OkL s) : Sat (hocketref4_Owner.f s) OkRes := by
  unfold hocketref4_Owner.f
  refine sat_if (fun _ => sat_b rfl (sat_r (bad_ok (by omega)))) (fun h0 => ?_)
  have hl : 0 < s.length := by omega
  have := hs.r _ (List.getElem_mem hl)
  exact sat_b (ix_get (by omega) (by simp; omega)) (sat_r ⟨by simp, by simp only [Int.toNat_zero]; omega, by simp⟩)
structure OkMp (l : List api_Pair) : Prop where
  n : (l.length : Int) ≤ 8
  r : ∀ x ∈ l, OkPair x
  d : l.Pairwise (fun a b => slt a.Key b.Key = true)
theorem key_sat {K : Nat} (hK : 150 ≤ K) {s : List api_Pair} (hs : s.length ≤ 100) (k : List UInt8) : Sat (hocketref4_key.f K s k) (fun r => (r = -1 ∧ ∀ p ∈ s, p.Key ≠ k) ∨ ∃ i : Nat, r = i ∧ ∃ h : i < s.length, (s[i]'h).Key = k) := by
  unfold hocketref4_key.f
  refine sat_loop (fun v : Int => ((s.length : Int) - v).toNat) (fun v => ∃ i : Nat, v = (i : Int) ∧ i ≤ s.length ∧ ∀ p ∈ s.take i, p.Key ≠ k) ?_ K _ ⟨0, rfl, by omega, by simp⟩ (by omega)
  rintro _ ⟨i, rfl, h2, h3⟩ ag hag
  show Sat (hocketref4_key.B1 K s k _ ag _) _
  unfold hocketref4_key.B1
  refine sat_if (fun hlt => ?_) (fun hge => ?_)
  · have hi : i < s.length := by omega
    refine sat_b (ix_get (by omega) (by simpa using hi)) ?_
    simp only [Int.toNat_natCast]
    refine sat_if (fun hc => sat_r (.inr ⟨i, rfl, hi, hc⟩)) (fun hc => ?_)
    rw [w64_succN (by omega)]
    refine hag _ ⟨i + 1, rfl, by omega, fun p hp => ?_⟩ (by omega)
    rw [← List.take_append_getElem (l := s) (i := i) hi] at hp
    rcases List.mem_append.1 hp with hp | hp
    · exact h3 p hp
    · obtain rfl := List.mem_singleton.1 hp; exact hc
  · have : i = s.length := by omega
    subst this
    rw [List.take_length] at h3
    show Sat (hocketref4_key.J1 K) _
    unfold hocketref4_key.J1
    exact sat_r (.inl ⟨rfl, h3⟩)
theorem set_mid {α : Type} (l r : List α) (q y : α) : (l ++ q :: r).set l.length y = l ++ y :: r := by
  rw [List.set_append_right _ _ (Nat.le_refl _), Nat.sub_self]
  rfl
theorem mid_get {α : Type} {xs : List α} {i : Nat} (hi : i ≤ xs.length) (q : α) : (xs.take i ++ q :: xs.drop i).length = xs.length + 1 := by
  simp only [List.length_append, List.length_take, List.length_cons, List.length_drop]; omega
theorem mid_pair {α : Type} {R : α → α → Prop} {xs : List α} (h : xs.Pairwise R) {i : Nat} {p : α} (ht : ∀ a ∈ xs.take i, R a p) (hd : ∀ a ∈ xs.drop i, R p a) : (xs.take i ++ p :: xs.drop i).Pairwise R := by
  rw [List.pairwise_append]
  refine ⟨h.sublist (List.take_sublist _ _), List.pairwise_cons.2 ⟨hd, h.sublist (List.drop_sublist _ _)⟩, fun a ha b hb => ?_⟩
  rcases List.mem_cons.1 hb with rfl | hb
  · exact ht a ha
  · have h2 := h
    rw [← List.take_append_drop i xs, List.pairwise_append] at h2
    exact h2.2.2 a ha b hb
theorem put_ok {K : Nat} (hK : 150 ≤ K) {s : List api_Pair} (hs : OkMp s) {k v : List UInt8} (hk : k.length ≤ 1000000) (hv : v.length ≤ 1000000) : Sat (hocketref4_Put.f K s k v) (fun r => OkMp r.1 ∧ OkRes r.2) := by
  have h1 := hs.n
  unfold hocketref4_Put.f
  refine sat_b (pairs1_eq (by omega) (by omega) hs.r) ?_
  have yes : Sat (hocketref4_Put.J1 K s s k v true) (fun r => OkMp r.1 ∧ OkRes r.2) := by
    unfold hocketref4_Put.J1
    exact sat_t rfl (sat_b rfl (sat_r ⟨hs, bad_ok (by omega)⟩))
  refine sat_if (fun _ => yes) (fun hk8 => ?_)
  by_cases hv16 : (v.length : Int) > 16
  · rw [decide_eq_true hv16]; exact yes
  rw [decide_eq_false hv16]
  unfold hocketref4_Put.J1
  refine sat_f (by simp) (sat_bs (key_sat hK (by omega) k) (fun r hr => ?_))
  rcases hr with ⟨rfl, hno⟩ | ⟨i, rfl, hi, hki⟩
  · refine sat_f (by omega) (sat_if (fun _ => sat_b rfl (sat_r ⟨hs, bad_ok (by omega)⟩)) (fun hl8 => ?_))
    refine sat_b (app_eq (by simp only [List.length_singleton]; omega)) ?_
    refine sat_loop (fun v : List api_Pair × Int => v.2.toNat) (fun w => ∃ (i : Nat) (q : api_Pair), w.2 = (i : Int) ∧ i ≤ s.length ∧ w.1 = s.take i ++ q :: s.drop i ∧ ∀ p ∈ s.drop i, slt k p.Key = true) ?_ K _ ⟨s.length, _, rfl, Nat.le_refl _, by simp; rfl, by simp⟩ (by simp only; omega)
    rintro ⟨out, j⟩ ⟨i, q, g1, g2, g3, g4⟩ ag hag
    simp only at g1 g3
    subst g1 g3
    have htl : (s.take i).length = i := by rw [List.length_take]; omega
    have fin : (∀ p ∈ s.take i, slt p.Key k = true) → Sat (hocketref4_Put.J2 K k v s (s.take i ++ q :: s.drop i) (i : Int)) (fun r => OkMp r.1 ∧ OkRes r.2) := fun hlt => by
      unfold hocketref4_Put.J2
      refine sat_b (own_eq (by omega)) (sat_b (own_eq (by omega)) (sat_b (ix_get (by omega) (by rw [Int.toNat_natCast, mid_get g2]; omega)) (sat_r ⟨?_, ⟨by simp, ?_, by simp⟩⟩)))
      · have e : (s.take i ++ q :: s.drop i).set (i : Int).toNat ⟨k, v⟩ = s.take i ++ ⟨k, v⟩ :: s.drop i := by
          rw [Int.toNat_natCast]
          have := set_mid (s.take i) (s.drop i) q (⟨k, v⟩ : api_Pair)
          rwa [htl] at this
        rw [e]
        refine ⟨by rw [mid_get g2]; omega, fun x hx => ?_, mid_pair hs.d hlt g4⟩
        rcases List.mem_append.1 hx with hx | hx
        · exact hs.r x (List.mem_of_mem_take hx)
        · rcases List.mem_cons.1 hx with rfl | hx
          · exact ⟨by simp only; omega, by simp only; omega⟩
          · exact hs.r x (List.mem_of_mem_drop hx)
      · simp only; rw [w64_id (by omega)]; omega
    show Sat (hocketref4_Put.B1 K k _ ag (s.take i ++ q :: s.drop i) (i : Int)) _
    unfold hocketref4_Put.B1
    refine sat_if (fun hpos => ?_) (fun hz => ?_)
    · obtain ⟨m, rfl⟩ : ∃ m, i = m + 1 := ⟨i - 1, by omega⟩
      rw [w64_predN (by omega)]
      have hm : m < s.length := by omega
      have hget : (s.take (m + 1) ++ q :: s.drop (m + 1))[m]? = some s[m] := by
        rw [List.getElem?_append_left (by omega), List.getElem?_take_of_lt (by omega), List.getElem?_eq_getElem hm]
      refine sat_b (ix_eq (by omega) (by rw [Int.toNat_natCast]; exact hget)) ?_
      unfold hocketref4_Put.J3
      refine sat_if (fun hs1 => ?_) (fun hs1 => ?_)
      · rw [w64_predN (by omega)]
        refine sat_b (ix_eq (by omega) (by rw [Int.toNat_natCast]; exact hget)) (sat_b (ix_get (by omega) (by rw [Int.toNat_natCast, mid_get g2]; omega)) ?_)
        refine hag _ ⟨m, s[m], rfl, by omega, ?_, fun p hp => ?_⟩ (by simp only; omega)
        · rw [Int.toNat_natCast]
          have := set_mid (s.take (m + 1)) (s.drop (m + 1)) q s[m]
          rw [htl] at this
          simp only
          rw [this, ← List.take_append_getElem (l := s) (i := m) hm, List.append_assoc, List.drop_eq_getElem_cons hm]
          rfl
        · rw [List.drop_eq_getElem_cons hm] at hp
          rcases List.mem_cons.1 hp with rfl | hp
          · exact hs1
          · exact g4 p hp
      · have hne : s[m].Key ≠ k := hno _ (List.getElem_mem hm)
        have hs2 : slt s[m].Key k = true := slt_tri (by simpa using hs1) (fun e => hne e.symm)
        refine fin (fun p hp => ?_)
        rw [← List.take_append_getElem (l := s) (i := m) hm] at hp
        rcases List.mem_append.1 hp with hp | hp
        · have h2 := hs.d
          rw [← List.take_append_drop m s, List.pairwise_append] at h2
          have hin : s[m] ∈ s.drop m := by
            have : s[m] ∈ s[m] :: s.drop (m + 1) := List.mem_cons_self
            rwa [← List.drop_eq_getElem_cons hm] at this
          exact slt_trans (h2.2.2 p hp s[m] hin) hs2
        · obtain rfl := List.mem_singleton.1 hp; exact hs2
    · obtain rfl : i = 0 := by omega
      unfold hocketref4_Put.J3
      exact sat_f (by simp) (fin (by simp))
  · refine sat_t (by omega) ?_
    have hg := ix_get (xs := s) (i := (i : Int)) (by omega) (by simpa using hi)
    have hp := hs.r _ (List.getElem_mem hi)
    refine sat_b hg (sat_b (own_eq (by omega)) (sat_b hg ?_))
    simp only [Int.toNat_natCast]
    refine sat_r ⟨⟨by simp only [List.length_set]; omega, fun x hx => ?_, ?_⟩, ⟨by simp, by simp only; omega, hp.2⟩⟩
    · rcases List.mem_or_eq_of_mem_set hx with hx | rfl
      · exact hs.r x hx
      · exact ⟨hp.1, by simp only; omega⟩
    · have e : (s.set i ⟨s[i].Key, v⟩).map (·.Key) = s.map (·.Key) := by
        rw [List.map_set]
        refine List.ext_getElem (by simp) (fun j h1 h2 => ?_)
        rw [List.getElem_set]
        split
        · rename_i hji; subst hji; simp
        · rfl
      have h2 := hs.d
      rw [← List.pairwise_map (f := fun p : api_Pair => p.Key) (R := fun a b => slt a b = true)] at h2 ⊢
      rw [e]
      exact h2
theorem get_ok {K : Nat} (hK : 150 ≤ K) {s : List api_Pair} (hs : OkMp s) {k : List UInt8} : Sat (hocketref4_Get.f K s k) OkRes := by
  have h1 := hs.n
  unfold hocketref4_Get.f
  refine sat_bs (key_sat hK (by omega) k) (fun r hr => ?_)
  rcases hr with ⟨rfl, hno⟩ | ⟨i, rfl, hi, hki⟩
  · exact sat_f (by omega) (sat_b rfl (sat_r (bad_ok (by omega))))
  · have hp := (hs.r _ (List.getElem_mem hi)).2
    refine sat_t (by omega) (sat_b (ix_get (by omega) (by simpa using hi)) (sat_b (own_eq (by simp only [Int.toNat_natCast]; omega)) (sat_r ⟨by simp, by simp, hp⟩)))
theorem del_ok {K : Nat} (hK : 150 ≤ K) {s : List api_Pair} (hs : OkMp s) {k : List UInt8} : Sat (hocketref4_Del.f K s k) (fun r => OkMp r.1 ∧ OkRes r.2) := by
  have h1 := hs.n
  unfold hocketref4_Del.f
  refine sat_b (pairs1_eq (by omega) (by omega) hs.r) (sat_bs (key_sat hK (by omega) k) (fun r hr => ?_))
  rcases hr with ⟨rfl, hno⟩ | ⟨i, rfl, hi, hki⟩
  · exact sat_t (by omega) (sat_b rfl (sat_r ⟨hs, bad_ok (by omega)⟩))
  · have hp := (hs.r _ (List.getElem_mem hi)).2
    refine sat_f (by omega) (sat_b (ix_get (by omega) (by simpa using hi)) ?_)
    rw [w64_succN (by omega)]
    refine sat_b (must_eq (by omega)) (sat_b (must_eq (by omega)) (sat_b (must_eq (by omega)) (sat_r ⟨?_, ⟨by simp, by simp, by simpa using hp⟩⟩)))
    simp only [Int.toNat_natCast]
    rw [← List.eraseIdx_eq_take_drop_succ]
    have hsub := List.eraseIdx_sublist s i
    have := hsub.length_le
    exact ⟨by omega, fun x hx => hs.r x (hsub.subset hx), hs.d.sublist hsub⟩
theorem apply_ok {K : Nat} (hK : 150 ≤ K) {o : api_Objects} (ho : OkO o) {c : api_Cmd} (h1 : c.Key.length ≤ 1000000) (h2 : c.Val.length ≤ 1000000) : Sat (hocketref4_Apply.f K o c) (fun r => OkO r.1 ∧ OkRes r.2) := by
  obtain ⟨⟨r1, ⟨q1, q2⟩, ⟨l1, l2⟩, p1, p2⟩, ld, pd⟩ := ho
  have hq : OkQ o.Queue := ⟨q1, q2⟩
  have hl : OkL o.Lock := ⟨l1, l2, ld⟩
  have hp : OkMp o.Map := ⟨p1, p2, pd⟩
  unfold hocketref4_Apply.f
  refine sat_b (own_eq (by omega)) (sat_b (rows1_eq (by omega) (by omega) (fun x hx => by have := q2 x hx; omega)) (sat_b (app_eq (by simp; omega)) (sat_b (pairs1_eq (by omega) (by omega) p2) (sat_b rfl ?_))))
  rw [List.nil_append]
  have mk : ∀ (r : List UInt8) (q : List (List UInt8)) (l : List Int) (p : List api_Pair), r.length ≤ 16 → OkQ q → OkL l → OkMp p → OkO ⟨r, q, l, p⟩ := fun r q l p a b c d => ⟨⟨a, b, ⟨c.n, c.r⟩, d.n, d.r⟩, c.d, d.d⟩
  have go : ∀ w : Bool, (w = true → 0 ≤ c.Who ∧ c.Who ≤ 999) → Sat (hocketref4_Apply.J1 K c o.Reg o.Queue o.Lock o.Map ⟨7, [], 0⟩ w) (fun r => OkO r.1 ∧ OkRes r.2) := fun w hw => by
    have j2 : ∀ (x : api_Objects) (r : api_Result), OkO x → OkRes r → Sat (hocketref4_Apply.J2 K x r) (fun r => OkO r.1 ∧ OkRes r.2) := fun x r hx hr => by
      unfold hocketref4_Apply.J2
      exact sat_r ⟨hx, hr⟩
    have same := mk _ _ _ _ r1 hq hl hp
    have b7 : OkRes ⟨7, [], 0⟩ := bad_ok (by omega)
    unfold hocketref4_Apply.J1
    refine sat_if (fun _ => ?_) (fun _ => ?_)
    · have hrd : hocketref4_Read.f o.Reg = some ⟨0, o.Reg, 0⟩ := by unfold hocketref4_Read.f; rw [own_eq (by omega)]; rfl
      exact sat_b hrd (j2 _ _ same ⟨by simp, by simp, r1⟩)
    refine sat_if (fun _ => sat_bs (write_ok r1 h2) (fun v hv => j2 _ _ (mk _ _ _ _ hv.1 hq hl hp) hv.2)) (fun _ => ?_)
    refine sat_if (fun _ => sat_bs (cas_ok r1 h2) (fun v hv => j2 _ _ (mk _ _ _ _ hv.1 hq hl hp) hv.2)) (fun _ => ?_)
    refine sat_if (fun _ => sat_bs (push_ok hK hq h2) (fun v hv => j2 _ _ (mk _ _ _ _ r1 hv.1 hl hp) hv.2)) (fun _ => ?_)
    refine sat_if (fun _ => sat_bs (pop_ok hK hq) (fun v hv => j2 _ _ (mk _ _ _ _ r1 hv.1 hl hp) hv.2)) (fun _ => ?_)
    refine sat_if (fun _ => sat_if (fun g => sat_bs (take_ok hK hl (hw g)) (fun v hv => j2 _ _ (mk _ _ _ _ r1 hq hv.1 hp) hv.2)) (fun _ => j2 _ _ same b7)) (fun _ => ?_)
    refine sat_if (fun _ => sat_if (fun g => sat_bs (free_ok hK hl) (fun v hv => j2 _ _ (mk _ _ _ _ r1 hq hv.1 hp) hv.2)) (fun _ => j2 _ _ same b7)) (fun _ => ?_)
    refine sat_if (fun _ => sat_bs (owner_ok hl) (fun v hv => j2 _ _ same hv)) (fun _ => ?_)
    refine sat_if (fun _ => sat_bs (put_ok hK hp h1 h2) (fun v hv => j2 _ _ (mk _ _ _ _ r1 hq hl hv.1) hv.2)) (fun _ => ?_)
    refine sat_if (fun _ => sat_bs (get_ok hK hp) (fun v hv => j2 _ _ same hv)) (fun _ => ?_)
    refine sat_if (fun _ => sat_bs (del_ok hK hp) (fun v hv => j2 _ _ (mk _ _ _ _ r1 hq hl hv.1) hv.2)) (fun _ => j2 _ _ same b7)
  refine sat_if (fun hw => go _ (fun g => ?_)) (fun _ => go _ (fun g => by cases g))
  rw [decide_eq_true_eq] at g
  omega
structure OkT (t : List api_Last) : Prop where
  n : (t.length : Int) ≤ 8
  r : ∀ x ∈ t, OkLast x
  s : ∀ x ∈ t, 1 ≤ x.Sess ∧ 1 ≤ x.Seq
  d : t.Pairwise (fun a b => a.Sess < b.Sess)
theorem at_sat {K : Nat} (hK : 150 ≤ K) {t : List api_Last} (ht : t.length ≤ 100) (s : Int) : Sat (hocketref4_at.f K t s) (fun r => ∃ i : Nat, r = i ∧ i ≤ t.length ∧ (∀ p ∈ t.take i, p.Sess < s) ∧ ∀ h : i < t.length, s ≤ (t[i]'h).Sess) := by
  unfold hocketref4_at.f
  refine sat_loop (fun v : Int => ((t.length : Int) - v).toNat) (fun v => ∃ i : Nat, v = (i : Int) ∧ i ≤ t.length ∧ ∀ p ∈ t.take i, p.Sess < s) ?_ K _ ⟨0, rfl, by omega, by simp⟩ (by omega)
  rintro _ ⟨i, rfl, h2, h3⟩ ag hag
  show Sat (hocketref4_at.B1 K t s _ ag _) _
  unfold hocketref4_at.B1 hocketref4_at.J1
  refine sat_if (fun hlt => ?_) (fun hge => sat_r ⟨i, rfl, h2, h3, fun h => by omega⟩)
  have hi : i < t.length := by omega
  refine sat_b (ix_get (by omega) (by simpa using hi)) ?_
  simp only [Int.toNat_natCast]
  refine sat_if (fun hc => ?_) (fun hc => sat_r ⟨i, rfl, h2, h3, fun h => by omega⟩)
  rw [w64_succN (by omega)]
  refine hag _ ⟨i + 1, rfl, by omega, fun p hp => ?_⟩ (by omega)
  rw [← List.take_append_getElem (l := t) (i := i) hi] at hp
  rcases List.mem_append.1 hp with hp | hp
  · exact h3 p hp
  · obtain rfl := List.mem_singleton.1 hp; exact hc
theorem at_eq {K : Nat} (hK : 150 ≤ K) {t : List api_Last} (ht : t.length ≤ 100) (s : Int) : ∃ i : Nat, hocketref4_at.f K t s = some (i : Int) ∧ i ≤ t.length ∧ (∀ p ∈ t.take i, p.Sess < s) ∧ ∀ h : i < t.length, s ≤ (t[i]'h).Sess := by
  obtain ⟨r, h1, i, rfl, h2⟩ := at_sat hK ht s
  exact ⟨i, h1, h2⟩
/-- A call that is new has its place, or there is room for one. -/
def Fits (t : List api_Last) (s : Int) : Prop := (t.length : Int) < 8 ∨ ∃ (i : Nat) (h : i < t.length), (∀ p ∈ t.take i, p.Sess < s) ∧ (t[i]'h).Sess = s
theorem look_ok {K : Nat} (hK : 150 ≤ K) {t : List api_Last} (ht : OkT t) (s q : Int) : Sat (hocketref4_Look.f K t s q) (fun r => OkRes r.1 ∧ (r.2 = 0 → ((1 ≤ s ∧ s ≤ 1073741824) ∧ (1 ≤ q ∧ q ≤ 1073741824)) ∧ Fits t s)) := by
  have h1 := ht.n
  unfold hocketref4_Look.f hocketref4_named.f
  have bad : ∀ (e : Int), 0 ≤ e ∧ e ≤ 10 → Sat (Option.bind (hocketref4_bad.f e) fun t_85 => some (t_85, (2 : Int))) (fun r => OkRes r.1 ∧ (r.2 = 0 → ((1 ≤ s ∧ s ≤ 1073741824) ∧ (1 ≤ q ∧ q ≤ 1073741824)) ∧ Fits t s)) := fun e he =>
    sat_b rfl (sat_r ⟨bad_ok he, fun h => by cases h⟩)
  have main : (1 ≤ s ∧ s ≤ 1073741824) → (1 ≤ q ∧ q ≤ 1073741824) → Sat (Option.bind (hocketref4_at.f K t s) fun t_9 => if t_9 = (t.length : Int) then (hocketref4_Look.J1 K t t_9 q true) else (Option.bind (ix t t_9) fun t_78 => hocketref4_Look.J1 K t t_9 q (t_78.Sess != s))) (fun r => OkRes r.1 ∧ (r.2 = 0 → ((1 ≤ s ∧ s ≤ 1073741824) ∧ (1 ≤ q ∧ q ≤ 1073741824)) ∧ Fits t s)) := fun hs hq => by
    have yes : ∀ i : Int, Sat (hocketref4_Look.J1 K t i q true) (fun r => OkRes r.1 ∧ (r.2 = 0 → ((1 ≤ s ∧ s ≤ 1073741824) ∧ (1 ≤ q ∧ q ≤ 1073741824)) ∧ Fits t s)) := fun i => by
      unfold hocketref4_Look.J1
      exact sat_t rfl (sat_if (fun _ => bad 9 (by omega)) (fun h8 => sat_r ⟨bad_ok (by omega), fun _ => ⟨⟨hs, hq⟩, .inl (by omega)⟩⟩))
    refine sat_bs (at_sat hK (by omega) s) (fun r hr => ?_)
    obtain ⟨i, rfl, g1, g2, g3⟩ := hr
    refine sat_if (fun _ => yes _) (fun hne => ?_)
    have hi : i < t.length := by omega
    have hg := ix_get (xs := t) (i := (i : Int)) (by omega) (by simpa using hi)
    refine sat_b hg ?_
    simp only [Int.toNat_natCast] at hg ⊢
    cases hb : (t[i].Sess != s) with
    | true => exact yes _
    | false =>
      have he : t[i].Sess = s := by simpa using hb
      have hv := ht.r _ (List.getElem_mem hi)
      obtain ⟨_, _, e1, e2, e3⟩ := hv
      unfold hocketref4_Look.J1
      refine sat_f (by simp) (sat_b hg (sat_if (fun _ => bad 8 (by omega)) (fun _ => sat_b hg (sat_if (fun _ => sat_b hg (sat_b (res1_eq (by omega)) (sat_r ⟨⟨e1, e2, e3⟩, fun h => by cases h⟩))) (fun _ => sat_r ⟨bad_ok (by omega), fun _ => ⟨⟨hs, hq⟩, .inr ⟨i, hi, g2, he⟩⟩⟩)))))
  by_cases c1 : s ≥ 1
  · rw [if_pos c1]
    by_cases c2 : q ≥ 1
    · rw [if_pos c2]
      by_cases c3 : s ≤ 1073741824
      · rw [if_pos c3]
        by_cases c4 : q ≤ 1073741824
        · rw [decide_eq_true c4]
          exact sat_b rfl (sat_t rfl (main ⟨c1, c3⟩ ⟨c2, c4⟩))
        · rw [decide_eq_false c4]
          exact sat_b rfl (sat_f (by simp) (bad 10 (by omega)))
      · rw [if_neg c3]; exact sat_b rfl (sat_f (by simp) (bad 10 (by omega)))
    · rw [if_neg c2]; exact sat_b rfl (sat_f (by simp) (bad 10 (by omega)))
  · rw [if_neg c1]; exact sat_b rfl (sat_f (by simp) (bad 10 (by omega)))
theorem putLast_ok {K : Nat} (hK : 150 ≤ K) {t : List api_Last} (ht : OkT t) {s q : Int} (hs : 1 ≤ s ∧ s ≤ 1073741824) (hq : 1 ≤ q ∧ q ≤ 1073741824) (hf : Fits t s) {r : api_Result} (hr : OkRes r) : Sat (hocketref4_PutLast.f K t s q r) OkT := by
  have h1 := ht.n
  have hgig : gig = 1073741824 := rfl
  have hl : OkLast ⟨s, q, r⟩ := ⟨by simp only; omega, by simp only; omega, hr⟩
  have hv : ∀ x ∈ t, x.Result.Val.length ≤ 1000000 := fun x hx => by obtain ⟨_, _, _, _, g⟩ := ht.r x hx; omega
  unfold hocketref4_PutLast.f
  obtain ⟨i, g0, g1, g2, g3⟩ := at_eq hK (t := t) (by omega) s
  refine sat_b (table1_eq (by omega) (by omega) hv) (sat_b g0 (sat_b (res1_eq (by have := hr.2.2; omega)) ?_))
  have ins : (∀ h : i < t.length, (t[i]'h).Sess ≠ s) → Sat (hocketref4_PutLast.J1 K t (i : Int) s q r false) OkT := fun hne => by
    have hlt : (t.length : Int) < 8 := by
      rcases hf with hf | ⟨j, hj, j2, j3⟩
      · exact hf
      · exfalso
        by_cases hji : j < i
        · have := g2 t[j] (by
            rw [List.mem_take_iff_getElem]
            exact ⟨j, by omega, rfl⟩)
          omega
        · by_cases hij : i < j
          · have hi : i < t.length := by omega
            have a := j2 t[i] (by
              rw [List.mem_take_iff_getElem]
              exact ⟨i, by omega, rfl⟩)
            have b := g3 hi
            omega
          · have : j = i := by omega
            subst this
            exact hne hj j3
    unfold hocketref4_PutLast.J1
    refine sat_f (by simp) (sat_b (cut_eq ⟨by omega, by omega, by omega⟩) (sat_b (cut_eq ⟨by omega, by omega, by omega⟩) ?_))
    simp only [Int.toNat_natCast, Int.toNat_zero, List.drop_zero, List.take_length]
    refine sat_b (app_eq (by simp only [List.length_nil, List.length_take]; omega)) (sat_b (app_eq (by simp only [List.length_append, List.length_nil, List.length_take, List.length_singleton]; omega)) (sat_b (app_eq (by simp only [List.length_append, List.length_nil, List.length_take, List.length_singleton, List.length_drop]; omega)) (sat_r ?_)))
    rw [List.nil_append, List.append_assoc]
    show OkT (t.take i ++ (⟨s, q, r⟩ : api_Last) :: t.drop i)
    have mem : ∀ {P : api_Last → Prop}, (∀ x ∈ t, P x) → P ⟨s, q, r⟩ → ∀ x ∈ t.take i ++ (⟨s, q, r⟩ : api_Last) :: t.drop i, P x := fun h k x hx => by
      rcases List.mem_append.1 hx with hx | hx
      · exact h x (List.mem_of_mem_take hx)
      · rcases List.mem_cons.1 hx with rfl | hx
        · exact k
        · exact h x (List.mem_of_mem_drop hx)
    refine ⟨by rw [mid_get g1]; omega, mem ht.r hl, mem ht.s ⟨by simp only; omega, by simp only; omega⟩, mid_pair ht.d (fun a ha => g2 a ha) (fun a ha => ?_)⟩
    simp only
    by_cases hi : i < t.length
    · have a1 := g3 hi
      have a2 := hne hi
      rw [List.drop_eq_getElem_cons hi] at ha
      rcases List.mem_cons.1 ha with rfl | ha
      · omega
      · have h2 := ht.d
        rw [← List.take_append_drop i t, List.pairwise_append, List.drop_eq_getElem_cons hi, List.pairwise_cons] at h2
        have := h2.2.1.1 a ha
        omega
    · rw [List.drop_eq_nil_of_le (by omega)] at ha; cases ha
  refine sat_if (fun hlt => ?_) (fun hge => ins (fun h => by omega))
  have hi : i < t.length := by omega
  have hg := ix_get (xs := t) (i := (i : Int)) (by omega) (by simpa using hi)
  refine sat_b hg ?_
  simp only [Int.toNat_natCast] at hg ⊢
  cases hb : (t[i].Sess == s) with
  | false => exact ins (fun _ => by simpa using hb)
  | true =>
    have he : t[i].Sess = s := by simpa using hb
    unfold hocketref4_PutLast.J1
    refine sat_t rfl (sat_b hg (sat_r ?_))
    rw [Int.toNat_natCast]
    have mem : ∀ {P : api_Last → Prop}, (∀ x ∈ t, P x) → P ⟨s, q, r⟩ → ∀ x ∈ t.set i ⟨s, q, r⟩, P x := fun h k x hx => by
      rcases List.mem_or_eq_of_mem_set hx with hx | rfl
      · exact h x hx
      · exact k
    refine ⟨by rw [List.length_set]; omega, mem ht.r hl, mem ht.s ⟨by simp only; omega, by simp only; omega⟩, ?_⟩
    have e : (t.set i ⟨s, q, r⟩).map (·.Sess) = t.map (·.Sess) := by
      rw [List.map_set]
      refine List.ext_getElem (by simp) (fun j h1 h2 => ?_)
      rw [List.getElem_set]
      split
      · rename_i hji; subst hji; simp [he]
      · rfl
    have h2 := ht.d
    rw [← List.pairwise_map (f := fun p : api_Last => p.Sess) (R := fun a b => a < b)] at h2 ⊢
    rw [e]
    exact h2
structure OkM' (m : api_Machine) : Prop where
  o : OkO m.Objects
  t : OkT m.Table
theorem step_ok {K : Nat} (hK : 150 ≤ K) {m : api_Machine} (hm : OkM' m) {e : api_Entry} (h1 : e.Cmd.Key.length ≤ 1000000) (h2 : e.Cmd.Val.length ≤ 1000000) : Sat (hocketref4_Step.f K m e) (fun r => OkM' r.1 ∧ OkRes r.2) := by
  have ht := hm.t.n
  unfold hocketref4_Step.f
  refine sat_bs (look_ok hK hm.t e.Sess e.Seq) (fun r hr => ?_)
  refine sat_if (fun h0 => ?_) (fun h0 => ?_)
  · obtain ⟨⟨hs, hq⟩, hf⟩ := hr.2 h0
    refine sat_bs (apply_ok hK hm.o h1 h2) (fun a ha => ?_)
    exact sat_bs (putLast_ok hK hm.t hs hq hf ha.2) (fun b hb => sat_r ⟨⟨ha.1, hb⟩, ha.2⟩)
  · refine sat_bs (apply_ok hK hm.o (by simp) (by simp)) (fun a ha => ?_)
    exact sat_b (table1_eq (by omega) (by omega) (fun x hx => by obtain ⟨_, _, _, _, g⟩ := hm.t.r x hx; omega)) (sat_r ⟨⟨ha.1, hm.t⟩, hr.1⟩)
theorem okM_rd {m : api_Machine} (h : OkM' m) : OkRd m ∧ RightM m := ⟨⟨h.o.ob, h.t.n, h.t.r⟩, h.o.l, h.t.s, h.o.p, h.t.d⟩
theorem zmach_ok : OkM' zmach := ⟨⟨⟨by simp [zmach], ⟨by simp [zmach], by simp [zmach]⟩, ⟨by simp [zmach], by simp [zmach]⟩, by simp [zmach], by simp [zmach]⟩, by simp [zmach], by simp [zmach]⟩, ⟨by simp [zmach], by simp [zmach], by simp [zmach], by simp [zmach]⟩⟩
theorem machine_ok {K : Nat} (hK : 150 ≤ K) (l : List Int) : Sat (hocketlaw10_Machine.f K l) OkM' := by
  unfold hocketlaw10_Machine.f
  refine sat_loop (fun v : Int × api_Machine => (60 - v.1).toNat) (fun v => ∃ i : Nat, v.1 = (i : Int) ∧ i ≤ 60 ∧ OkM' v.2) ?_ K _ ⟨0, rfl, by omega, zmach_ok⟩ (by simp only; omega)
  rintro ⟨j, m⟩ ⟨i, g1, g2, g3⟩ ag hag
  simp only at g1 g3
  subst g1
  show Sat (hocketlaw10_Machine.B1 K l _ ag (i : Int) m) _
  unfold hocketlaw10_Machine.B1 hocketlaw10_Machine.J2 hocketlaw10_Machine.J1
  refine sat_if (fun hlt => ?_) (fun _ => sat_f (by simp) (sat_r g3))
  refine sat_if (fun h60 => ?_) (fun _ => sat_r g3)
  rw [decide_eq_true_eq] at h60
  refine sat_b (ix_get (by omega) (by rw [Int.toNat_natCast]; omega)) ?_
  obtain ⟨e, e1, e2, _⟩ := entry_num l[(i : Int).toNat] (y := (i : Int)) (by omega)
  have e3 := e2.l.1
  have e4 := e2.l.2.1
  refine sat_b e1 (sat_bs (step_ok hK g3 (by omega) (by omega)) (fun r hr => ?_))
  rw [w64_succN (by omega)]
  exact hag _ ⟨i + 1, rfl, by omega, hr.1⟩ (by simp only; omega)
end Go.Gp
