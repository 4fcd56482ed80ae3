/- What the statements say, of the plain functions. -/
import Derived.Test.YtploijfgnnkddaaGreatDefs
import Derived.Test.YtploijfgnnkddaaGreatLe
import Derived.Test.YtploijfgnnkddaaGreatThInts
import Derived.Test.YtploijfgnnkddaaGreatThPack
import Derived.Test.YtploijfgnnkddaaGreatThMesg
import Derived.Test.YtploijfgnnkddaaGreatThMesg2
import Derived.Test.YtploijfgnnkddaaGreatThMesg3
import Derived.Test.YtploijfgnnkddaaGreatThMesg4
import Derived.Test.YtploijfgnnkddaaGreatThMesg5
import Derived.Test.YtploijfgnnkddaaGreatThMesg6
import Derived.Test.YtploijfgnnkddaaGreatThMsg
import Derived.Test.YtploijfgnnkddaaGreatThMesg7
import Derived.Test.YtploijfgnnkddaaGreatThMesg8
import Derived.Test.YtploijfgnnkddaaGreatThMesgS
import Derived.Test.YtploijfgnnkddaaGreatGpCrc
import Derived.Test.YtploijfgnnkddaaGreatThCrc
import Derived.Test.YtploijfgnnkddaaGreatThFram
import Derived.Test.YtploijfgnnkddaaGreatThPack1
import Derived.Test.YtploijfgnnkddaaGreatThMesg9
import Derived.Test.YtploijfgnnkddaaGreatThMesg10
import Derived.Test.YtploijfgnnkddaaGreatThRows
import Derived.Test.YtploijfgnnkddaaGreatThMach
import Derived.Test.YtploijfgnnkddaaGreatThMach2
import Derived.Test.YtploijfgnnkddaaGreatThMach3
import Derived.Test.YtploijfgnnkddaaGreatThMach4
import Derived.Test.YtploijfgnnkddaaGreatThBlob
import Derived.Test.YtploijfgnnkddaaGreatThBlob2
/- The machine that entries of numbers come to: it may be. -/
namespace Go.Gp
open Go
theorem A0I {x : List UInt8} (h : x.length ≤ 1000000000) : F7.f x = some x := by
  unfold F7.f; rw [R6 (by simp; omega)]; simp
theorem A5W {r : C4} (h : r.Val.length ≤ 1000000000) : V1.f r = some r := by
  unfold V1.f; rw [A0I h]
  rfl
theorem A4U {α β : Type} {f : (List α × Int → Option β) → List α × Int → Option β} {xs : List α} {g : List α → Option β}
    (step : ∀ ag (i : Nat) (h : i < xs.length) (c : List α), c.length = i → f ag (c, (i : Int)) = ag (c ++ [xs[i]], ((i + 1 : Nat) : Int)))
    (fin : ∀ ag (c : List α), f ag (c, (xs.length : Int)) = g c) :
    ∀ (n i K : Nat) (c : List α), i + n = xs.length → n < K → c.length = i → S4 f K (c, (i : Int)) = g (c ++ xs.drop i) := by
  intro n
  induction n with
  | zero =>
    intro i K c hi hK hc; obtain ⟨k, rfl⟩ : ∃ k, K = k + 1 := ⟨K - 1, by omega⟩; rw [X5, show i = xs.length by omega, fin, List.drop_length]; simp
  | succ n ih =>
    intro i K c hi hK hc; obtain ⟨k, rfl⟩ : ∃ k, K = k + 1 := ⟨K - 1, by omega⟩; have h : i < xs.length := by omega
    rw [X5, step _ _ h _ hc, ih (i + 1) k _ (by omega) (by omega) (by simp [hc]), List.drop_eq_getElem_cons h]; simp
theorem A5l {K : Nat} {xs : List (List UInt8)} (hK : xs.length < K) (hx : xs.length ≤ 1000000) (h : ∀ x ∈ xs, x.length ≤ 1000000) : G2.f K xs = some xs := by
  unfold G2.f G2.L1; have := A4U (xs := xs) (f := fun again v => G2.B1 K xs (fun v => G2.J1 K v) again v.1 v.2) (g := fun v => G2.J1 K v) (fun ag i h' c hc => by
    simp only; unfold G2.B1; have hx := h _ (List.getElem_mem h'); rw [if_pos (by omega), O7 (by omega) (by simpa using h')]; simp only [Option.bind_some, Int.toNat_natCast]; rw [A0I (by omega)]; simp only [Option.bind_some]; rw [R6 (by simp only [List.length_singleton]; omega)]; simp only [Option.bind_some]; rw [Q2 (by omega)]) (fun ag c => by
    simp only; unfold G2.B1; rw [if_neg (by omega)]) xs.length 0 K [] (by omega) hK rfl
  refine Eq.trans this ?_; simp [G2.J1]
theorem A4O {K : Nat} {xs : List A7} (hK : xs.length < K) (hx : xs.length ≤ 1000000) (h : ∀ x ∈ xs, A3J x) : H0.f K xs = some xs := by
  unfold H0.f H0.L1; have := A4U (xs := xs) (f := fun again v => H0.B1 K xs (fun v => H0.J1 K v) again v.1 v.2) (g := fun v => H0.J1 K v) (fun ag i h' c hc => by
    simp only; unfold H0.B1; have hx := h _ (List.getElem_mem h'); obtain ⟨hx1, hx2⟩ := hx; rw [if_pos (by omega), O7 (by omega) (by simpa using h')]; simp only [Option.bind_some, Int.toNat_natCast]; rw [A0I (by omega)]; simp only [Option.bind_some]; rw [A0I (by omega)]; simp only [Option.bind_some]; rw [R6 (by simp only [List.length_singleton]; omega)]; simp only [Option.bind_some]; rw [Q2 (by omega)]) (fun ag c => by
    simp only; unfold H0.B1; rw [if_neg (by omega)]) xs.length 0 K [] (by omega) hK rfl
  refine Eq.trans this ?_; simp [H0.J1]
theorem A6r {K : Nat} {xs : List B6} (hK : xs.length < K) (hx : xs.length ≤ 1000000) (h : ∀ x ∈ xs, x.Result.Val.length ≤ 1000000) : H1.f K xs = some xs := by
  unfold H1.f H1.L1; have := A4U (xs := xs) (f := fun again v => H1.B1 K xs (fun v => H1.J1 K v) again v.1 v.2) (g := fun v => H1.J1 K v) (fun ag i h' c hc => by
    simp only; unfold H1.B1; have hx := h _ (List.getElem_mem h'); rw [if_pos (by omega), O7 (by omega) (by simpa using h')]; simp only [Option.bind_some, Int.toNat_natCast]; rw [A5W (by omega)]; simp only [Option.bind_some]; rw [R6 (by simp only [List.length_singleton]; omega)]; simp only [Option.bind_some]; rw [Q2 (by omega)]) (fun ag c => by
    simp only; unfold H1.B1; rw [if_neg (by omega)]) xs.length 0 K [] (by omega) hK rfl
  refine Eq.trans this ?_; simp [H1.J1]
def A0s (r : C4) : Prop := (0 ≤ r.Err ∧ r.Err ≤ 10) ∧ (-1 ≤ r.N ∧ r.N ≤ 1073741824) ∧ r.Val.length ≤ 16
theorem A0E {e : Int} (h : 0 ≤ e ∧ e ≤ 10) : A0s ⟨e, [], 0⟩ := ⟨h, by simp, by simp⟩
structure OkO (o : C0) : Prop where
  ob : A7g o
  l : o.Lock.Nodup
  p : o.Map.Pairwise (fun a b => slt a.Key b.Key = true)
theorem A9U {s v : List UInt8} (hs : s.length ≤ 16) (hv : v.length ≤ 1000000) : Sat (A0k.f s v) (fun r => r.1.length ≤ 16 ∧ A0s r.2) := by
  unfold A0k.f; refine J9 (fun _ => E4 (A0I (by omega)) (E4 rfl (O4 ⟨hs, A0E (by omega)⟩))) (fun h => E4 (A0I (by omega)) (O4 ⟨by simp only; omega, A0E (by omega)⟩))
theorem B2g {s o v : List UInt8} (hs : s.length ≤ 16) (hv : v.length ≤ 1000000) : Sat (A0P.f s o v) (fun r => r.1.length ≤ 16 ∧ A0s r.2) := by
  unfold A0P.f; refine J9 (fun _ => E4 (A0I (by omega)) (E4 rfl (O4 ⟨hs, A0E (by omega)⟩))) (fun h => J9 (fun _ => E4 (A0I (by omega)) (O4 ⟨by simp only; omega, A0E (by omega)⟩)) (fun _ => ?_)); exact E4 (A0I (by omega)) (E4 (A0I (by omega)) (O4 ⟨hs, ⟨by simp, by simp, hs⟩⟩))
def OkQ (q : List (List UInt8)) : Prop := (q.length : Int) ≤ 8 ∧ ∀ x ∈ q, x.length ≤ 16
theorem B1c {K : Nat} (hK : 150 ≤ K) {s : List (List UInt8)} {v : List UInt8} (hs : OkQ s) (hv : v.length ≤ 1000000) : Sat (A0z.f K s v) (fun r => OkQ r.1 ∧ A0s r.2) := by
  obtain ⟨h1, h2⟩ := hs; have hr := A5l (K := K) (xs := s) (by omega) (by omega) (fun x hx => by have := h2 x hx; omega); unfold A0z.f; refine J9 (fun _ => E4 hr (E4 rfl (O4 ⟨⟨h1, h2⟩, A0E (by omega)⟩))) (fun hl => J9 (fun _ => E4 hr (E4 rfl (O4 ⟨⟨h1, h2⟩, A0E (by omega)⟩))) (fun hl2 => ?_)); refine E4 hr (E4 (A0I (by omega)) (E4 (R6 (by simp only [List.length_singleton]; omega)) (O4 ⟨⟨by simp; omega, fun x hx => ?_⟩, ⟨by simp, ?_, by simp⟩⟩)))
  · rcases List.mem_append.1 hx with hx | hx
    · exact h2 x hx
    · obtain rfl := List.mem_singleton.1 hx; omega
  · simp only; rw [T9 (by omega)]; omega
theorem B1Q {K : Nat} (hK : 150 ≤ K) {s : List (List UInt8)} (hs : OkQ s) : Sat (A0M.f K s) (fun r => OkQ r.1 ∧ A0s r.2) := by
  obtain ⟨h1, h2⟩ := hs; unfold A0M.f; refine J9 (fun _ => E4 rfl (O4 ⟨⟨by simp, by simp⟩, A0E (by omega)⟩)) (fun h0 => ?_); have hl : 0 < s.length := by omega
  refine E4 (A1f ⟨by omega, by omega, by omega⟩) (E4 (O7 (by omega) (by simp; omega)) ?_); simp only [Int.toNat_natCast, List.take_length]; have hx := h2 _ (List.getElem_mem hl); refine E4 (A5l (by rw [List.length_drop]; omega) (by rw [List.length_drop]; omega) (fun x hx => by have := h2 x (List.mem_of_mem_drop hx); omega)) (E4 (A0I (by simp only [Int.toNat_zero]; omega)) (O4 ⟨⟨by simp; omega, fun x hx => h2 x (List.mem_of_mem_drop hx)⟩, ⟨by simp, by simp, by simp only [Int.toNat_zero]; omega⟩⟩))
structure OkL (l : List Int) : Prop where
  n : (l.length : Int) ≤ 5
  r : ∀ x ∈ l, 0 ≤ x ∧ x ≤ 999
  d : l.Nodup
theorem B0O {K : Nat} (hK : 150 ≤ K) {s : List Int} (hs : OkL s) {w : Int} (hw : 0 ≤ w ∧ w ≤ 999) : Sat (A0w.f K s w) (fun r => OkL r.1 ∧ A0s r.2) := by
  have h1 := hs.n; unfold A0w.f; refine E4 (R6 (by simp; omega)) (E4 (A5m (by omega) (by omega) _) ?_); rw [List.nil_append]; refine J9 (fun _ => E4 rfl (O4 ⟨hs, A0E (by omega)⟩)) (fun hp => J9 (fun _ => E4 rfl (O4 ⟨hs, A0E (by omega)⟩)) (fun hl => ?_)); refine E4 (R6 (by simp only [List.length_singleton]; omega)) (O4 ⟨⟨by simp; omega, fun x hx => ?_, ?_⟩, ⟨by simp, by simp only; omega, by simp⟩⟩)
  · rcases List.mem_append.1 hx with hx | hx
    · exact hs.r x hx
    · obtain rfl := List.mem_singleton.1 hx; exact hw
  · have hn : w ∉ s := by
      rcases A3s s w with ⟨_, h⟩ | ⟨i, h, _⟩
      · exact h
      · omega
    rw [List.nodup_append]; refine ⟨hs.d, by simp, fun a ha b hb e => ?_⟩; obtain rfl := List.mem_singleton.1 hb; exact hn (e ▸ ha)
theorem B1n {K : Nat} (hK : 150 ≤ K) {s : List Int} (hs : OkL s) {w : Int} : Sat (A0A.f K s w) (fun r => OkL r.1 ∧ A0s r.2) := by
  have h1 := hs.n; unfold A0A.f; refine E4 (A5m (by omega) (by omega) _) ?_
  rcases A3s s w with ⟨hp, _⟩ | ⟨i, hp, hi, _, _, he⟩
  · rw [hp]; refine A2q (by omega) (E4 (R6 (by simp; omega)) (E4 rfl (O4 ⟨by rw [List.nil_append]; exact hs, A0E (by omega)⟩)))
  · rw [hp]; refine A1L (by omega) (E4 (A1f ⟨by omega, by omega, by omega⟩) ?_); rw [Q2 (by omega)]; refine E4 (A1f ⟨by omega, by omega, by omega⟩) ?_; simp only [Int.toNat_natCast, Int.toNat_zero, List.drop_zero, List.take_length]; refine E4 (R6 (by simp only [List.length_nil, List.length_take]; omega)) (E4 (R6 (by simp only [List.nil_append, List.length_take, List.length_drop]; omega)) ?_); rw [List.nil_append, he]; have hsub := List.erase_sublist (a := w) (l := s); have hle := hsub.length_le; refine J9 (fun _ => O4 ⟨⟨by simp, by simp, by simp⟩, ⟨by simp, by simp, by simp⟩⟩) (fun h0 => ?_); have hl : 0 < (s.erase w).length := by omega
    refine E4 (O7 (by omega) (by simp; omega)) (O4 ⟨⟨by simp only; omega, fun x hx => hs.r x (hsub.subset hx), hs.d.sublist hsub⟩, ⟨by simp, ?_, by simp⟩⟩); have := hs.r _ (hsub.subset (List.getElem_mem hl)); simp only [Int.toNat_zero]; omega
theorem B0n {s : List Int} (hs : OkL s) : Sat (A0l.f s) A0s := by
  unfold A0l.f; refine J9 (fun _ => E4 rfl (O4 (A0E (by omega)))) (fun h0 => ?_); have hl : 0 < s.length := by omega
  have := hs.r _ (List.getElem_mem hl); exact E4 (O7 (by omega) (by simp; omega)) (O4 ⟨by simp, by simp only [Int.toNat_zero]; omega, by simp⟩)
structure A4z (l : List A7) : Prop where
  n : (l.length : Int) ≤ 8
  r : ∀ x ∈ l, A3J x
  d : l.Pairwise (fun a b => slt a.Key b.Key = true)
theorem A6j {K : Nat} (hK : 150 ≤ K) {s : List A7} (hs : s.length ≤ 100) (k : List UInt8) : Sat (I6.f K s k) (fun r => (r = -1 ∧ ∀ p ∈ s, p.Key ≠ k) ∨ ∃ i : Nat, r = i ∧ ∃ h : i < s.length, (s[i]'h).Key = k) := by
  unfold I6.f; refine A1b (fun v : Int => ((s.length : Int) - v).toNat) (fun v => ∃ i : Nat, v = (i : Int) ∧ i ≤ s.length ∧ ∀ p ∈ s.take i, p.Key ≠ k) ?_ K _ ⟨0, rfl, by omega, by simp⟩ (by omega); rintro _ ⟨i, rfl, h2, h3⟩ ag hag; show Sat (I6.B1 K s k _ ag _) _; unfold I6.B1; refine J9 (fun hlt => ?_) (fun hge => ?_)
  · have hi : i < s.length := by omega
    refine E4 (O7 (by omega) (by simpa using hi)) ?_; simp only [Int.toNat_natCast]; refine J9 (fun hc => O4 (.inr ⟨i, rfl, hi, hc⟩)) (fun hc => ?_); rw [Q2 (by omega)]; refine hag _ ⟨i + 1, rfl, by omega, fun p hp => ?_⟩ (by omega); rw [← List.take_append_getElem (l := s) (i := i) hi] at hp
    rcases List.mem_append.1 hp with hp | hp
    · exact h3 p hp
    · obtain rfl := List.mem_singleton.1 hp; exact hc
  · have : i = s.length := by omega
    subst this; rw [List.take_length] at h3; show Sat (I6.J1 K) _; unfold I6.J1; exact O4 (.inl ⟨rfl, h3⟩)
theorem A8i {α : Type} (l r : List α) (q y : α) : (l ++ q :: r).set l.length y = l ++ y :: r := by
  rw [List.set_append_right _ _ (Nat.le_refl _), Nat.sub_self]
  rfl
theorem A4Z {α : Type} {xs : List α} {i : Nat} (hi : i ≤ xs.length) (q : α) : (xs.take i ++ q :: xs.drop i).length = xs.length + 1 := by
  simp only [List.length_append, List.length_take, List.length_cons, List.length_drop]; omega
theorem A7v {α : Type} {R : α → α → Prop} {xs : List α} (h : xs.Pairwise R) {i : Nat} {p : α} (ht : ∀ a ∈ xs.take i, R a p) (hd : ∀ a ∈ xs.drop i, R p a) : (xs.take i ++ p :: xs.drop i).Pairwise R := by
  rw [List.pairwise_append]; refine ⟨h.sublist (List.take_sublist _ _), List.pairwise_cons.2 ⟨hd, h.sublist (List.drop_sublist _ _)⟩, fun a ha b hb => ?_⟩
  rcases List.mem_cons.1 hb with rfl | hb
  · exact ht a ha
  · have h2 := h; rw [← List.take_append_drop i xs, List.pairwise_append] at h2; exact h2.2.2 a ha b hb
theorem B1P {K : Nat} (hK : 150 ≤ K) {s : List A7} (hs : A4z s) {k v : List UInt8} (hk : k.length ≤ 1000000) (hv : v.length ≤ 1000000) : Sat (F3.f K s k v) (fun r => A4z r.1 ∧ A0s r.2) := by
  have h1 := hs.n; unfold F3.f; refine E4 (A4O (by omega) (by omega) hs.r) ?_; have yes : Sat (F3.J1 K s s k v true) (fun r => A4z r.1 ∧ A0s r.2) := by
    unfold F3.J1; exact A2q rfl (E4 rfl (O4 ⟨hs, A0E (by omega)⟩))
  refine J9 (fun _ => yes) (fun hk8 => ?_)
  by_cases hv16 : (v.length : Int) > 16
  · rw [decide_eq_true hv16]; exact yes
  rw [decide_eq_false hv16]; unfold F3.J1; refine A1L (by simp) (A0a (A6j hK (by omega) k) (fun r hr => ?_))
  rcases hr with ⟨rfl, hno⟩ | ⟨i, rfl, hi, hki⟩
  · refine A1L (by omega) (J9 (fun _ => E4 rfl (O4 ⟨hs, A0E (by omega)⟩)) (fun hl8 => ?_)); refine E4 (R6 (by simp only [List.length_singleton]; omega)) ?_; refine A1b (fun v : List A7 × Int => v.2.toNat) (fun w => ∃ (i : Nat) (q : A7), w.2 = (i : Int) ∧ i ≤ s.length ∧ w.1 = s.take i ++ q :: s.drop i ∧ ∀ p ∈ s.drop i, slt k p.Key = true) ?_ K _ ⟨s.length, _, rfl, Nat.le_refl _, by simp; rfl, by simp⟩ (by simp only; omega); rintro ⟨out, j⟩ ⟨i, q, g1, g2, g3, g4⟩ ag hag; simp only at g1 g3; subst g1 g3; have htl : (s.take i).length = i := by rw [List.length_take]; omega
    have fin : (∀ p ∈ s.take i, slt p.Key k = true) → Sat (F3.J2 K k v s (s.take i ++ q :: s.drop i) (i : Int)) (fun r => A4z r.1 ∧ A0s r.2) := fun hlt => by
      unfold F3.J2; refine E4 (A0I (by omega)) (E4 (A0I (by omega)) (E4 (O7 (by omega) (by rw [Int.toNat_natCast, A4Z g2]; omega)) (O4 ⟨?_, ⟨by simp, ?_, by simp⟩⟩)))
      · have e : (s.take i ++ q :: s.drop i).set (i : Int).toNat ⟨k, v⟩ = s.take i ++ ⟨k, v⟩ :: s.drop i := by
          rw [Int.toNat_natCast]; have := A8i (s.take i) (s.drop i) q (⟨k, v⟩ : A7)
          rwa [htl] at this
        rw [e]; refine ⟨by rw [A4Z g2]; omega, fun x hx => ?_, A7v hs.d hlt g4⟩
        rcases List.mem_append.1 hx with hx | hx
        · exact hs.r x (List.mem_of_mem_take hx)
        · rcases List.mem_cons.1 hx with rfl | hx
          · exact ⟨by simp only; omega, by simp only; omega⟩
          · exact hs.r x (List.mem_of_mem_drop hx)
      · simp only; rw [T9 (by omega)]; omega
    show Sat (F3.B1 K k _ ag (s.take i ++ q :: s.drop i) (i : Int)) _; unfold F3.B1; refine J9 (fun hpos => ?_) (fun hz => ?_)
    · obtain ⟨m, rfl⟩ : ∃ m, i = m + 1 := ⟨i - 1, by omega⟩; rw [A1P (by omega)]; have hm : m < s.length := by omega
      have hget : (s.take (m + 1) ++ q :: s.drop (m + 1))[m]? = some s[m] := by
        rw [List.getElem?_append_left (by omega), List.getElem?_take_of_lt (by omega), List.getElem?_eq_getElem hm]
      refine E4 (A7d (by omega) (by rw [Int.toNat_natCast]; exact hget)) ?_; unfold F3.J3; refine J9 (fun hs1 => ?_) (fun hs1 => ?_)
      · rw [A1P (by omega)]; refine E4 (A7d (by omega) (by rw [Int.toNat_natCast]; exact hget)) (E4 (O7 (by omega) (by rw [Int.toNat_natCast, A4Z g2]; omega)) ?_); refine hag _ ⟨m, s[m], rfl, by omega, ?_, fun p hp => ?_⟩ (by simp only; omega)
        · rw [Int.toNat_natCast]; have := A8i (s.take (m + 1)) (s.drop (m + 1)) q s[m]; rw [htl] at this; simp only; rw [this, ← List.take_append_getElem (l := s) (i := m) hm, List.append_assoc, List.drop_eq_getElem_cons hm]
          rfl
        · rw [List.drop_eq_getElem_cons hm] at hp
          rcases List.mem_cons.1 hp with rfl | hp
          · exact hs1
          · exact g4 p hp
      · have hne : s[m].Key ≠ k := hno _ (List.getElem_mem hm); have hs2 : slt s[m].Key k = true := A8g (by simpa using hs1) (fun e => hne e.symm); refine fin (fun p hp => ?_); rw [← List.take_append_getElem (l := s) (i := m) hm] at hp
        rcases List.mem_append.1 hp with hp | hp
        · have h2 := hs.d; rw [← List.take_append_drop m s, List.pairwise_append] at h2; have hin : s[m] ∈ s.drop m := by
            have : s[m] ∈ s[m] :: s.drop (m + 1) := List.mem_cons_self
            rwa [← List.drop_eq_getElem_cons hm] at this
          exact A3L (h2.2.2 p hp s[m] hin) hs2
        · obtain rfl := List.mem_singleton.1 hp; exact hs2
    · obtain rfl : i = 0 := by omega
      unfold F3.J3; exact A1L (by simp) (fin (by simp))
  · refine A2q (by omega) ?_; have hg := O7 (xs := s) (i := (i : Int)) (by omega) (by simpa using hi); have hp := hs.r _ (List.getElem_mem hi); refine E4 hg (E4 (A0I (by omega)) (E4 hg ?_)); simp only [Int.toNat_natCast]; refine O4 ⟨⟨by simp only [List.length_set]; omega, fun x hx => ?_, ?_⟩, ⟨by simp, by simp only; omega, hp.2⟩⟩
    · rcases List.mem_or_eq_of_mem_set hx with hx | rfl
      · exact hs.r x hx
      · exact ⟨hp.1, by simp only; omega⟩
    · have e : (s.set i ⟨s[i].Key, v⟩).map (·.Key) = s.map (·.Key) := by
        rw [List.map_set]; refine List.ext_getElem (by simp) (fun j h1 h2 => ?_); rw [List.getElem_set]; split
        · rename_i hji; subst hji; simp
        · rfl
      have h2 := hs.d; rw [← List.pairwise_map (f := fun p : A7 => p.Key) (R := fun a b => slt a b = true)] at h2 ⊢; rw [e]; exact h2
theorem B2c {K : Nat} (hK : 150 ≤ K) {s : List A7} (hs : A4z s) {k : List UInt8} : Sat (A0N.f K s k) A0s := by
  have h1 := hs.n; unfold A0N.f; refine A0a (A6j hK (by omega) k) (fun r hr => ?_)
  rcases hr with ⟨rfl, hno⟩ | ⟨i, rfl, hi, hki⟩
  · exact A1L (by omega) (E4 rfl (O4 (A0E (by omega))))
  · have hp := (hs.r _ (List.getElem_mem hi)).2; refine A2q (by omega) (E4 (O7 (by omega) (by simpa using hi)) (E4 (A0I (by simp only [Int.toNat_natCast]; omega)) (O4 ⟨by simp, by simp, hp⟩)))
theorem B2e {K : Nat} (hK : 150 ≤ K) {s : List A7} (hs : A4z s) {k : List UInt8} : Sat (A0O.f K s k) (fun r => A4z r.1 ∧ A0s r.2) := by
  have h1 := hs.n; unfold A0O.f; refine E4 (A4O (by omega) (by omega) hs.r) (A0a (A6j hK (by omega) k) (fun r hr => ?_))
  rcases hr with ⟨rfl, hno⟩ | ⟨i, rfl, hi, hki⟩
  · exact A2q (by omega) (E4 rfl (O4 ⟨hs, A0E (by omega)⟩))
  · have hp := (hs.r _ (List.getElem_mem hi)).2; refine A1L (by omega) (E4 (O7 (by omega) (by simpa using hi)) ?_); rw [Q2 (by omega)]; refine E4 (A2U (by omega)) (E4 (A2U (by omega)) (E4 (A2U (by omega)) (O4 ⟨?_, ⟨by simp, by simp, by simpa using hp⟩⟩))); simp only [Int.toNat_natCast]; rw [← List.eraseIdx_eq_take_drop_succ]; have hsub := List.eraseIdx_sublist s i; have := hsub.length_le; exact ⟨by omega, fun x hx => hs.r x (hsub.subset hx), hs.d.sublist hsub⟩
theorem A7M {K : Nat} (hK : 150 ≤ K) {o : C0} (ho : OkO o) {c : L6} (h1 : c.Key.length ≤ 1000000) (h2 : c.Val.length ≤ 1000000) : Sat (G0.f K o c) (fun r => OkO r.1 ∧ A0s r.2) := by
  obtain ⟨⟨r1, ⟨q1, q2⟩, ⟨l1, l2⟩, p1, p2⟩, ld, pd⟩ := ho; have hq : OkQ o.Queue := ⟨q1, q2⟩; have hl : OkL o.Lock := ⟨l1, l2, ld⟩; have hp : A4z o.Map := ⟨p1, p2, pd⟩; unfold G0.f; refine E4 (A0I (by omega)) (E4 (A5l (by omega) (by omega) (fun x hx => by have := q2 x hx; omega)) (E4 (R6 (by simp; omega)) (E4 (A4O (by omega) (by omega) p2) (E4 rfl ?_)))); rw [List.nil_append]; have mk : ∀ (r : List UInt8) (q : List (List UInt8)) (l : List Int) (p : List A7), r.length ≤ 16 → OkQ q → OkL l → A4z p → OkO ⟨r, q, l, p⟩ := fun r q l p a b c d => ⟨⟨a, b, ⟨c.n, c.r⟩, d.n, d.r⟩, c.d, d.d⟩; have go : ∀ w : Bool, (w = true → 0 ≤ c.Who ∧ c.Who ≤ 999) → Sat (G0.J1 K c o.Reg o.Queue o.Lock o.Map ⟨7, [], 0⟩ w) (fun r => OkO r.1 ∧ A0s r.2) := fun w hw => by
    have j2 : ∀ (x : C0) (r : C4), OkO x → A0s r → Sat (G0.J2 K x r) (fun r => OkO r.1 ∧ A0s r.2) := fun x r hx hr => by
      unfold G0.J2; exact O4 ⟨hx, hr⟩
    have same := mk _ _ _ _ r1 hq hl hp; have b7 : A0s ⟨7, [], 0⟩ := A0E (by omega); unfold G0.J1; refine J9 (fun _ => ?_) (fun _ => ?_)
    · have hrd : A0y.f o.Reg = some ⟨0, o.Reg, 0⟩ := by unfold A0y.f; rw [A0I (by omega)]; rfl
      exact E4 hrd (j2 _ _ same ⟨by simp, by simp, r1⟩)
    refine J9 (fun _ => A0a (A9U r1 h2) (fun v hv => j2 _ _ (mk _ _ _ _ hv.1 hq hl hp) hv.2)) (fun _ => ?_); refine J9 (fun _ => A0a (B2g r1 h2) (fun v hv => j2 _ _ (mk _ _ _ _ hv.1 hq hl hp) hv.2)) (fun _ => ?_); refine J9 (fun _ => A0a (B1c hK hq h2) (fun v hv => j2 _ _ (mk _ _ _ _ r1 hv.1 hl hp) hv.2)) (fun _ => ?_); refine J9 (fun _ => A0a (B1Q hK hq) (fun v hv => j2 _ _ (mk _ _ _ _ r1 hv.1 hl hp) hv.2)) (fun _ => ?_); refine J9 (fun _ => J9 (fun g => A0a (B0O hK hl (hw g)) (fun v hv => j2 _ _ (mk _ _ _ _ r1 hq hv.1 hp) hv.2)) (fun _ => j2 _ _ same b7)) (fun _ => ?_); refine J9 (fun _ => J9 (fun g => A0a (B1n hK hl) (fun v hv => j2 _ _ (mk _ _ _ _ r1 hq hv.1 hp) hv.2)) (fun _ => j2 _ _ same b7)) (fun _ => ?_); refine J9 (fun _ => A0a (B0n hl) (fun v hv => j2 _ _ same hv)) (fun _ => ?_); refine J9 (fun _ => A0a (B1P hK hp h1 h2) (fun v hv => j2 _ _ (mk _ _ _ _ r1 hq hl hv.1) hv.2)) (fun _ => ?_); refine J9 (fun _ => A0a (B2c hK hp) (fun v hv => j2 _ _ same hv)) (fun _ => ?_); refine J9 (fun _ => A0a (B2e hK hp) (fun v hv => j2 _ _ (mk _ _ _ _ r1 hq hl hv.1) hv.2)) (fun _ => j2 _ _ same b7)
  refine J9 (fun hw => go _ (fun g => ?_)) (fun _ => go _ (fun g => by cases g)); rw [decide_eq_true_eq] at g; omega
structure OkT (t : List B6) : Prop where
  n : (t.length : Int) ≤ 8
  r : ∀ x ∈ t, A4n x
  s : ∀ x ∈ t, 1 ≤ x.Sess ∧ 1 ≤ x.Seq
  d : t.Pairwise (fun a b => a.Sess < b.Sess)
theorem A9R {K : Nat} (hK : 150 ≤ K) {t : List B6} (ht : t.length ≤ 100) (s : Int) : Sat (K8.f K t s) (fun r => ∃ i : Nat, r = i ∧ i ≤ t.length ∧ (∀ p ∈ t.take i, p.Sess < s) ∧ ∀ h : i < t.length, s ≤ (t[i]'h).Sess) := by
  unfold K8.f; refine A1b (fun v : Int => ((t.length : Int) - v).toNat) (fun v => ∃ i : Nat, v = (i : Int) ∧ i ≤ t.length ∧ ∀ p ∈ t.take i, p.Sess < s) ?_ K _ ⟨0, rfl, by omega, by simp⟩ (by omega); rintro _ ⟨i, rfl, h2, h3⟩ ag hag; show Sat (K8.B1 K t s _ ag _) _; unfold K8.B1 K8.J1; refine J9 (fun hlt => ?_) (fun hge => O4 ⟨i, rfl, h2, h3, fun h => by omega⟩); have hi : i < t.length := by omega
  refine E4 (O7 (by omega) (by simpa using hi)) ?_; simp only [Int.toNat_natCast]; refine J9 (fun hc => ?_) (fun hc => O4 ⟨i, rfl, h2, h3, fun h => by omega⟩); rw [Q2 (by omega)]; refine hag _ ⟨i + 1, rfl, by omega, fun p hp => ?_⟩ (by omega); rw [← List.take_append_getElem (l := t) (i := i) hi] at hp
  rcases List.mem_append.1 hp with hp | hp
  · exact h3 p hp
  · obtain rfl := List.mem_singleton.1 hp; exact hc
theorem B2y {K : Nat} (hK : 150 ≤ K) {t : List B6} (ht : t.length ≤ 100) (s : Int) : ∃ i : Nat, K8.f K t s = some (i : Int) ∧ i ≤ t.length ∧ (∀ p ∈ t.take i, p.Sess < s) ∧ ∀ h : i < t.length, s ≤ (t[i]'h).Sess := by
  obtain ⟨r, h1, i, rfl, h2⟩ := A9R hK ht s; exact ⟨i, h1, h2⟩
def A7Q (t : List B6) (s : Int) : Prop := (t.length : Int) < 8 ∨ ∃ (i : Nat) (h : i < t.length), (∀ p ∈ t.take i, p.Sess < s) ∧ (t[i]'h).Sess = s
theorem B1h {K : Nat} (hK : 150 ≤ K) {t : List B6} (ht : OkT t) (s q : Int) : Sat (Q5.f K t s q) (fun r => A0s r.1 ∧ (r.2 = 0 → ((1 ≤ s ∧ s ≤ 1073741824) ∧ (1 ≤ q ∧ q ≤ 1073741824)) ∧ A7Q t s)) := by
  have h1 := ht.n; unfold Q5.f X8.f; have bad : ∀ (e : Int), 0 ≤ e ∧ e ≤ 10 → Sat (Option.bind (G9.f e) fun t_85 => some (t_85, (2 : Int))) (fun r => A0s r.1 ∧ (r.2 = 0 → ((1 ≤ s ∧ s ≤ 1073741824) ∧ (1 ≤ q ∧ q ≤ 1073741824)) ∧ A7Q t s)) := fun e he =>
    E4 rfl (O4 ⟨A0E he, fun h => by cases h⟩)
  have main : (1 ≤ s ∧ s ≤ 1073741824) → (1 ≤ q ∧ q ≤ 1073741824) → Sat (Option.bind (K8.f K t s) fun t_9 => if t_9 = (t.length : Int) then (Q5.J1 K t t_9 q true) else (Option.bind (ix t t_9) fun t_78 => Q5.J1 K t t_9 q (t_78.Sess != s))) (fun r => A0s r.1 ∧ (r.2 = 0 → ((1 ≤ s ∧ s ≤ 1073741824) ∧ (1 ≤ q ∧ q ≤ 1073741824)) ∧ A7Q t s)) := fun hs hq => by
    have yes : ∀ i : Int, Sat (Q5.J1 K t i q true) (fun r => A0s r.1 ∧ (r.2 = 0 → ((1 ≤ s ∧ s ≤ 1073741824) ∧ (1 ≤ q ∧ q ≤ 1073741824)) ∧ A7Q t s)) := fun i => by
      unfold Q5.J1; exact A2q rfl (J9 (fun _ => bad 9 (by omega)) (fun h8 => O4 ⟨A0E (by omega), fun _ => ⟨⟨hs, hq⟩, .inl (by omega)⟩⟩))
    refine A0a (A9R hK (by omega) s) (fun r hr => ?_); obtain ⟨i, rfl, g1, g2, g3⟩ := hr; refine J9 (fun _ => yes _) (fun hne => ?_); have hi : i < t.length := by omega
    have hg := O7 (xs := t) (i := (i : Int)) (by omega) (by simpa using hi); refine E4 hg ?_; simp only [Int.toNat_natCast] at hg ⊢
    cases hb : (t[i].Sess != s) with
    | true => exact yes _
    | false =>
      have he : t[i].Sess = s := by simpa using hb
      have hv := ht.r _ (List.getElem_mem hi); obtain ⟨_, _, e1, e2, e3⟩ := hv; unfold Q5.J1; refine A1L (by simp) (E4 hg (J9 (fun _ => bad 8 (by omega)) (fun _ => E4 hg (J9 (fun _ => E4 hg (E4 (A5W (by omega)) (O4 ⟨⟨e1, e2, e3⟩, fun h => by cases h⟩))) (fun _ => O4 ⟨A0E (by omega), fun _ => ⟨⟨hs, hq⟩, .inr ⟨i, hi, g2, he⟩⟩⟩)))))
  by_cases c1 : s ≥ 1
  · rw [if_pos c1]
    by_cases c2 : q ≥ 1
    · rw [if_pos c2]
      by_cases c3 : s ≤ 1073741824
      · rw [if_pos c3]
        by_cases c4 : q ≤ 1073741824
        · rw [decide_eq_true c4]; exact E4 rfl (A2q rfl (main ⟨c1, c3⟩ ⟨c2, c4⟩))
        · rw [decide_eq_false c4]; exact E4 rfl (A1L (by simp) (bad 10 (by omega)))
      · rw [if_neg c3]; exact E4 rfl (A1L (by simp) (bad 10 (by omega)))
    · rw [if_neg c2]; exact E4 rfl (A1L (by simp) (bad 10 (by omega)))
  · rw [if_neg c1]; exact E4 rfl (A1L (by simp) (bad 10 (by omega)))
theorem A8H {K : Nat} (hK : 150 ≤ K) {t : List B6} (ht : OkT t) {s q : Int} (hs : 1 ≤ s ∧ s ≤ 1073741824) (hq : 1 ≤ q ∧ q ≤ 1073741824) (hf : A7Q t s) {r : C4} (hr : A0s r) : Sat (O8.f K t s q r) OkT := by
  have h1 := ht.n; have hgig : gig = 1073741824 := rfl; have hl : A4n ⟨s, q, r⟩ := ⟨by simp only; omega, by simp only; omega, hr⟩; have hv : ∀ x ∈ t, x.Result.Val.length ≤ 1000000 := fun x hx => by obtain ⟨_, _, _, _, g⟩ := ht.r x hx; omega
  unfold O8.f; obtain ⟨i, g0, g1, g2, g3⟩ := B2y hK (t := t) (by omega) s; refine E4 (A6r (by omega) (by omega) hv) (E4 g0 (E4 (A5W (by have := hr.2.2; omega)) ?_)); have ins : (∀ h : i < t.length, (t[i]'h).Sess ≠ s) → Sat (O8.J1 K t (i : Int) s q r false) OkT := fun hne => by
    have hlt : (t.length : Int) < 8 := by
      rcases hf with hf | ⟨j, hj, j2, j3⟩
      · exact hf
      · exfalso
        by_cases hji : j < i
        · have := g2 t[j] (by
            rw [List.mem_take_iff_getElem]; exact ⟨j, by omega, rfl⟩)
          omega
        · by_cases hij : i < j
          · have hi : i < t.length := by omega
            have a := j2 t[i] (by
              rw [List.mem_take_iff_getElem]; exact ⟨i, by omega, rfl⟩)
            have b := g3 hi; omega
          · have : j = i := by omega
            subst this; exact hne hj j3
    unfold O8.J1; refine A1L (by simp) (E4 (A1f ⟨by omega, by omega, by omega⟩) (E4 (A1f ⟨by omega, by omega, by omega⟩) ?_)); simp only [Int.toNat_natCast, Int.toNat_zero, List.drop_zero, List.take_length]; refine E4 (R6 (by simp only [List.length_nil, List.length_take]; omega)) (E4 (R6 (by simp only [List.length_append, List.length_nil, List.length_take, List.length_singleton]; omega)) (E4 (R6 (by simp only [List.length_append, List.length_nil, List.length_take, List.length_singleton, List.length_drop]; omega)) (O4 ?_))); rw [List.nil_append, List.append_assoc]; show OkT (t.take i ++ (⟨s, q, r⟩ : B6) :: t.drop i); have mem : ∀ {P : B6 → Prop}, (∀ x ∈ t, P x) → P ⟨s, q, r⟩ → ∀ x ∈ t.take i ++ (⟨s, q, r⟩ : B6) :: t.drop i, P x := fun h k x hx => by
      rcases List.mem_append.1 hx with hx | hx
      · exact h x (List.mem_of_mem_take hx)
      · rcases List.mem_cons.1 hx with rfl | hx
        · exact k
        · exact h x (List.mem_of_mem_drop hx)
    refine ⟨by rw [A4Z g1]; omega, mem ht.r hl, mem ht.s ⟨by simp only; omega, by simp only; omega⟩, A7v ht.d (fun a ha => g2 a ha) (fun a ha => ?_)⟩; simp only
    by_cases hi : i < t.length
    · have a1 := g3 hi; have a2 := hne hi; rw [List.drop_eq_getElem_cons hi] at ha
      rcases List.mem_cons.1 ha with rfl | ha
      · omega
      · have h2 := ht.d; rw [← List.take_append_drop i t, List.pairwise_append, List.drop_eq_getElem_cons hi, List.pairwise_cons] at h2; have := h2.2.1.1 a ha; omega
    · rw [List.drop_eq_nil_of_le (by omega)] at ha; cases ha
  refine J9 (fun hlt => ?_) (fun hge => ins (fun h => by omega)); have hi : i < t.length := by omega
  have hg := O7 (xs := t) (i := (i : Int)) (by omega) (by simpa using hi); refine E4 hg ?_; simp only [Int.toNat_natCast] at hg ⊢
  cases hb : (t[i].Sess == s) with
  | false => exact ins (fun _ => by simpa using hb)
  | true =>
    have he : t[i].Sess = s := by simpa using hb
    unfold O8.J1; refine A2q rfl (E4 hg (O4 ?_)); rw [Int.toNat_natCast]; have mem : ∀ {P : B6 → Prop}, (∀ x ∈ t, P x) → P ⟨s, q, r⟩ → ∀ x ∈ t.set i ⟨s, q, r⟩, P x := fun h k x hx => by
      rcases List.mem_or_eq_of_mem_set hx with hx | rfl
      · exact h x hx
      · exact k
    refine ⟨by rw [List.length_set]; omega, mem ht.r hl, mem ht.s ⟨by simp only; omega, by simp only; omega⟩, ?_⟩; have e : (t.set i ⟨s, q, r⟩).map (·.Sess) = t.map (·.Sess) := by
      rw [List.map_set]; refine List.ext_getElem (by simp) (fun j h1 h2 => ?_); rw [List.getElem_set]; split
      · rename_i hji; subst hji; simp [he]
      · rfl
    have h2 := ht.d; rw [← List.pairwise_map (f := fun p : B6 => p.Sess) (R := fun a b => a < b)] at h2 ⊢; rw [e]; exact h2
structure OkM' (m : A5) : Prop where
  o : OkO m.Objects
  t : OkT m.Table
theorem B0Q {K : Nat} (hK : 150 ≤ K) {m : A5} (hm : OkM' m) {e : B8} (h1 : e.Cmd.Key.length ≤ 1000000) (h2 : e.Cmd.Val.length ≤ 1000000) : Sat (A0x.f K m e) (fun r => OkM' r.1 ∧ A0s r.2) := by
  have ht := hm.t.n; unfold A0x.f; refine A0a (B1h hK hm.t e.Sess e.Seq) (fun r hr => ?_); refine J9 (fun h0 => ?_) (fun h0 => ?_)
  · obtain ⟨⟨hs, hq⟩, hf⟩ := hr.2 h0; refine A0a (A7M hK hm.o h1 h2) (fun a ha => ?_); exact A0a (A8H hK hm.t hs hq hf ha.2) (fun b hb => O4 ⟨⟨ha.1, hb⟩, ha.2⟩)
  · refine A0a (A7M hK hm.o (by simp) (by simp)) (fun a ha => ?_); exact E4 (A6r (by omega) (by omega) (fun x hx => by obtain ⟨_, _, _, _, g⟩ := hm.t.r x hx; omega)) (O4 ⟨⟨ha.1, hm.t⟩, hr.1⟩)
theorem A9A {m : A5} (h : OkM' m) : A5x m ∧ A1g m := ⟨⟨h.o.ob, h.t.n, h.t.r⟩, h.o.l, h.t.s, h.o.p, h.t.d⟩
theorem A7h : OkM' A0r := ⟨⟨⟨by simp [A0r], ⟨by simp [A0r], by simp [A0r]⟩, ⟨by simp [A0r], by simp [A0r]⟩, by simp [A0r], by simp [A0r]⟩, by simp [A0r], by simp [A0r]⟩, ⟨by simp [A0r], by simp [A0r], by simp [A0r], by simp [A0r]⟩⟩
theorem A8R {K : Nat} (hK : 150 ≤ K) (l : List Int) : Sat (E9.f K l) OkM' := by
  unfold E9.f; refine A1b (fun v : Int × A5 => (60 - v.1).toNat) (fun v => ∃ i : Nat, v.1 = (i : Int) ∧ i ≤ 60 ∧ OkM' v.2) ?_ K _ ⟨0, rfl, by omega, A7h⟩ (by simp only; omega); rintro ⟨j, m⟩ ⟨i, g1, g2, g3⟩ ag hag; simp only at g1 g3; subst g1; show Sat (E9.B1 K l _ ag (i : Int) m) _; unfold E9.B1 E9.J2 E9.J1; refine J9 (fun hlt => ?_) (fun _ => A1L (by simp) (O4 g3)); refine J9 (fun h60 => ?_) (fun _ => O4 g3); rw [decide_eq_true_eq] at h60; refine E4 (O7 (by omega) (by rw [Int.toNat_natCast]; omega)) ?_; obtain ⟨e, e1, e2, _⟩ := A6M l[(i : Int).toNat] (y := (i : Int)) (by omega); have e3 := e2.l.1; have e4 := e2.l.2.1; refine E4 e1 (A0a (B0Q hK g3 (by omega) (by omega)) (fun r hr => ?_)); rw [Q2 (by omega)]; exact hag _ ⟨i + 1, rfl, by omega, hr.1⟩ (by simp only; omega)
end Go.Gp
