/- What the statements say, of the plain functions. -/
import Derived.Test.YtdfhpaojkmnnfaaDefs
import Derived.Test.YtdfhpaojkmnnfaaLe
import Derived.Test.YtdfhpaojkmnnfaaThInts
/- Views: whom one chooses of who has come. -/
namespace Go.Gp
open Go
def popN (a : Nat) : Nat := a % 2 + a / 2 % 2 + a / 4 % 2 + a / 8 % 2 + a / 16 % 2 + a / 32 % 2 + a / 64 % 2
def memN (a : Nat) : List Int := let b := fun i : Nat => if a.testBit i = true then [(i : Int)] else []; b 0 ++ (b 1 ++ (b 2 ++ (b 3 ++ (b 4 ++ (b 5 ++ b 6)))))
def zmsg : api_Msg := ⟨0, 0, 0, 0, 0, 0, false, 0, 0, 0, 0, ([] : List UInt8), 0, 0, ([] : List Int), ([] : List Int), 0, (⟨0, 0, (⟨0, 0, ([] : List UInt8), ([] : List UInt8), ([] : List UInt8)⟩ : api_Cmd)⟩ : api_Entry)⟩
theorem bit_eq {c f : Nat} (hc : c < 128) (hf : f < 7) : (band .i64 (shr .i64 (c : Int) (f : Int)) 1 == 1) = c.testBit f := by
  have h : ∀ c : Fin 128, ∀ f : Fin 7, (band .i64 (shr .i64 ((c : Nat) : Int) ((f : Nat) : Int)) 1 == 1) = (c : Nat).testBit f := by decide +kernel
  exact h ⟨c, hc⟩ ⟨f, hf⟩
theorem or_bit {c f : Nat} (hc : c < 128) (hf : f < 7) : bor .i64 (c : Int) (shl .i64 1 (f : Int)) = ((c ||| 2 ^ f : Nat) : Int) := by
  have h : ∀ c : Fin 128, ∀ f : Fin 7, bor .i64 ((c : Nat) : Int) (shl .i64 1 ((f : Nat) : Int)) = (((c : Nat) ||| 2 ^ (f : Nat) : Nat) : Int) := by decide +kernel
  exact h ⟨c, hc⟩ ⟨f, hf⟩
theorem shl_bit {f : Nat} (hf : f < 8) : shl .i64 1 (f : Int) = ((2 ^ f : Nat) : Int) := by
  have h : ∀ f : Fin 8, shl .i64 1 ((f : Nat) : Int) = ((2 ^ (f : Nat) : Nat) : Int) := by decide +kernel
  exact h ⟨f, hf⟩
theorem wu_id {x : Int} (h : 0 ≤ x) (h2 : x < 9223372036854775807) : wu64 x = x := by
  show x % 18446744073709551616 = x
  omega
def mostN (c n : Nat) : Bool := decide (c < 2 ^ n ∧ n < 2 * popN c)
theorem most_small (a : Nat) (n : Nat) (ha : a < 256) (hn : n < 7) : view_Most.f (a : Int) ((n : Int) + 1) = some (mostN a (n + 1)) := by
  have h : ∀ a : Fin 256, ∀ n : Fin 7, view_Most.f ((a : Nat) : Int) (((n : Nat) : Int) + 1) = some (mostN (a : Nat) ((n : Nat) + 1)) := by decide +kernel
  exact h ⟨a, ha⟩ ⟨n, hn⟩
theorem mostr_small (a : Nat) (n : Nat) (ha : a < 256) (hn : n < 7) : hocketref11_Most.f 100 (a : Int) ((n : Int) + 1) = some (mostN a (n + 1)) := by
  have h : ∀ a : Fin 256, ∀ n : Fin 7, hocketref11_Most.f 100 ((a : Nat) : Int) (((n : Nat) : Int) + 1) = some (mostN (a : Nat) ((n : Nat) + 1)) := by decide +kernel
  exact h ⟨a, ha⟩ ⟨n, hn⟩
theorem members_small {a : Nat} (ha : a < 256) : view_Members.f 100 (a : Int) = some (memN a) := by
  have h : ∀ a : Fin 256, view_Members.f 100 ((a : Nat) : Int) = some (memN a) := by decide +kernel
  exact h ⟨a, ha⟩
theorem membersr_small {a : Nat} (ha : a < 256) : hocketref11_Members.f 100 (a : Int) = some (memN a) := by
  have h : ∀ a : Fin 256, hocketref11_Members.f 100 ((a : Nat) : Int) = some (memN a) := by decide +kernel
  exact h ⟨a, ha⟩
/-- How many nodes there are. -/
def nodes (x : Int) : Nat := (mn (mx x 1) 7).toNat
theorem nodes_eq (x : Int) : mn (mx x 1) 7 = (nodes x : Int) ∧ 1 ≤ nodes x ∧ nodes x ≤ 7 := by
  unfold nodes; rw [mn_eq, mx_eq]; omega
theorem most_eq {a : Nat} (ha : a < 256) (x : Int) : view_Most.f (a : Int) x = some (mostN a (nodes x)) := by
  obtain ⟨h1, h2, h3⟩ := nodes_eq x
  have := most_small a (nodes x - 1) ha (by omega)
  rw [show ((nodes x - 1 : Nat) : Int) + 1 = mn (mx x 1) 7 by omega, show nodes x - 1 + 1 = nodes x by omega] at this
  rw [← this]
  unfold view_Most.f
  have e : mn (mx (mn (mx x 1) 7) 1) 7 = mn (mx x 1) 7 := by simp only [mn_eq, mx_eq]; omega
  rw [e]
theorem mostr_eq {a : Nat} (ha : a < 256) (x : Int) : hocketref11_Most.f 100 (a : Int) x = some (mostN a (nodes x)) := by
  obtain ⟨h1, h2, h3⟩ := nodes_eq x
  have := mostr_small a (nodes x - 1) ha (by omega)
  rw [show ((nodes x - 1 : Nat) : Int) + 1 = mn (mx x 1) 7 by omega, show nodes x - 1 + 1 = nodes x by omega] at this
  rw [← this]
  unfold hocketref11_Most.f
  have e : mn (mx (mn (mx x 1) 7) 1) 7 = mn (mx x 1) 7 := by simp only [mn_eq, mx_eq]; omega
  rw [e]
/-! ### the first ones -/
def takes (n c : Nat) (m : api_Msg) : Prop := m.Kind = 2 ∧ 0 ≤ m.From ∧ m.From < n ∧ c.testBit m.From.toNat = false
instance (n c : Nat) (m : api_Msg) : Decidable (takes n c m) := by unfold takes; infer_instance
def stepF (n : Nat) (s : List api_Msg × Nat) (m : api_Msg) : List api_Msg × Nat := if takes n s.2 m then (s.1 ++ [m], s.2 ||| 2 ^ m.From.toNat) else s
def firstsF (n : Nat) (l : List api_Msg) : List api_Msg × Nat := l.foldl (stepF n) ([], 0)
def stepT (s : Bool × Int) (m : api_Msg) : Bool × Int := if s.1 = false ∨ s.2 < m.Inst then (true, m.Inst) else s
def topF (l : List api_Msg) : Bool × Int := l.foldl stepT (false, 0)
def maskF (l : List api_Msg) : Nat := l.foldl (fun c m => c ||| 2 ^ m.From.toNat) 0
theorem topF_one (l : List api_Msg) : (topF l).1 = !l.isEmpty := by
  unfold topF
  have : ∀ (l : List api_Msg) (s : Bool × Int), (l.foldl stepT s).1 = (s.1 || !l.isEmpty) := by
    intro l
    induction l with
    | nil => intro s; simp
    | cons m l ih =>
      intro s
      rw [List.foldl_cons, ih]
      unfold stepT
      split
      · simp
      · rename_i h; simp at h; simp [h.1]
  rw [this]; rfl
structure FI (n : Nat) (out : List api_Msg) (c : Nat) : Prop where
  mask : maskF out = c
  lt : c < 2 ^ n
  mem : ∀ m ∈ out, m.Kind = 2 ∧ 0 ≤ m.From ∧ m.From < n ∧ c.testBit m.From.toNat = true
  nil : out = [] → c = 0
  pos : out ≠ [] → c ≠ 0
  len : out.length ≤ 1000000
theorem or_lt {c f n : Nat} (hc : c < 2 ^ n) (hf : f < n) : c ||| 2 ^ f < 2 ^ n := Nat.or_lt_two_pow hc (Nat.pow_lt_pow_right (by decide) hf)
theorem testBit_or_pow (c f i : Nat) : (c ||| 2 ^ f).testBit i = (c.testBit i || decide (f = i)) := by
  rw [Nat.testBit_or, Nat.testBit_two_pow]
theorem maskF_snoc (l : List api_Msg) (m : api_Msg) : maskF (l ++ [m]) = maskF l ||| 2 ^ m.From.toNat := by unfold maskF; rw [List.foldl_append]; rfl
theorem topF_snoc (l : List api_Msg) (m : api_Msg) : topF (l ++ [m]) = stepT (topF l) m := by unfold topF; rw [List.foldl_append]; rfl
theorem firstsF_nil (n : Nat) : firstsF n [] = ([], 0) := rfl
theorem firstsF_snoc (n : Nat) (l : List api_Msg) (m : api_Msg) : firstsF n (l ++ [m]) = stepF n (firstsF n l) m := by unfold firstsF; rw [List.foldl_append]; rfl
theorem take_snoc {α : Type} {l : List α} {i : Nat} (h : i < l.length) : l.take (i + 1) = l.take i ++ [l[i]] := by rw [List.take_append_getElem]
theorem stepF_len (n : Nat) (s : List api_Msg × Nat) (m : api_Msg) : (stepF n s m).1.length ≤ s.1.length + 1 := by
  unfold stepF; split <;> simp
theorem firstsF_len (n : Nat) (l : List api_Msg) : (firstsF n l).1.length ≤ l.length := by
  unfold firstsF
  have : ∀ (l : List api_Msg) (s : List api_Msg × Nat), (l.foldl (stepF n) s).1.length ≤ s.1.length + l.length := by
    intro l
    induction l with
    | nil => intro s; simp
    | cons m l ih => intro s; rw [List.foldl_cons]; have := ih (stepF n s m); have := stepF_len n s m; simp only [List.length_cons]; omega
  simpa using this l ([], 0)
theorem FI.step {n : Nat} {s : List api_Msg × Nat} (h : FI n s.1 s.2) (hl : s.1.length < 1000000) (m : api_Msg) : FI n (stepF n s m).1 (stepF n s m).2 := by
  unfold stepF
  split
  · rename_i ht
    obtain ⟨h1, h2, h3, h4⟩ := ht
    refine ⟨?_, or_lt h.lt (by omega), ?_, ?_, ?_, ?_⟩
    · rw [maskF_snoc, h.mask]
    · intro x hx
      simp only [List.mem_append, List.mem_singleton] at hx
      rw [testBit_or_pow]
      rcases hx with hx | rfl
      · have := h.mem x hx; exact ⟨this.1, this.2.1, this.2.2.1, by simp [this.2.2.2]⟩
      · exact ⟨h1, h2, h3, by simp⟩
    · intro hx; simp at hx
    · intro _ hz
      have := testBit_or_pow s.2 m.From.toNat m.From.toNat
      have hz : s.2 ||| 2 ^ m.From.toNat = 0 := hz
      rw [hz] at this
      simp at this
    · simp only [List.length_append, List.length_singleton]; omega
  · exact h
theorem firstsF_inv (n : Nat) (l : List api_Msg) (hl : l.length ≤ 1000000) : FI n (firstsF n l).1 (firstsF n l).2 := by
  have : ∀ k : Nat, k ≤ l.length → FI n (firstsF n (l.take k)).1 (firstsF n (l.take k)).2 := by
    intro k
    induction k with
    | zero => intro _; exact ⟨rfl, by simpa [firstsF] using Nat.two_pow_pos n, by simp [firstsF], fun _ => rfl, by simp [firstsF], by simp [firstsF]⟩
    | succ k ih =>
      intro hk
      rw [take_snoc (by omega), firstsF_snoc]
      exact (ih (by omega)).step (by have := firstsF_len n (l.take k); simp only [List.length_take] at this; omega) _
  simpa using this l.length (Nat.le_refl _)
theorem firsts_eq {l : List api_Msg} {K : Nat} (hl : l.length ≤ 1000000) (hK : l.length < K) (x : Int) : view_firsts.f K l x = some (firstsF (nodes x) l).1 := by
  obtain ⟨hn, hn1, hn7⟩ := nodes_eq x
  suffices h : Sat (view_firsts.f K l x) (fun r => r = (firstsF (nodes x) l).1) by
    obtain ⟨r, h1, h2⟩ := h; rw [h1, h2]
  unfold view_firsts.f
  refine sat_loop (fun v : List api_Msg × Int × Int => (l.length - v.2.2).toNat) (fun v => ∃ i : Nat, v.2.2 = i ∧ i ≤ l.length ∧ v.1 = (firstsF (nodes x) (l.take i)).1 ∧ v.2.1 = ((firstsF (nodes x) (l.take i)).2 : Int)) ?_ K _ ⟨0, rfl, by omega, rfl, rfl⟩ (by simp only; omega)
  rintro ⟨out, c, j⟩ ⟨i, h1, h2, h3, h4⟩ ag hag
  simp only at h1 h2 h3 h4
  subst h1 h3 h4
  show Sat (view_firsts.B1 K l x _ ag _ _ _) _
  unfold view_firsts.B1
  dsimp only
  refine sat_if (fun hlt => ?_) (fun hge => ?_)
  · have hi : i < l.length := by omega
    refine sat_b (ix_get (by omega) (by simpa using hi)) ?_
    simp only [Int.toNat_natCast]
    have inv := firstsF_inv (nodes x) (l.take i) (by simp only [List.length_take]; omega)
    have hc : (firstsF (nodes x) (l.take i)).2 < 128 := Nat.lt_of_lt_of_le inv.lt ((Nat.pow_le_pow_right (by decide) hn7 : 2 ^ nodes x ≤ 2 ^ 7))
    have hfl := firstsF_len (nodes x) (l.take i)
    simp only [List.length_take] at hfl
    have snoc := firstsF_snoc (nodes x) (l.take i) l[i]
    rw [← take_snoc hi] at snoc
    generalize firstsF (nodes x) (l.take i) = s at *
    have skip : ¬ takes (nodes x) s.2 l[i] → Sat (view_firsts.J2 K ag s.1 s.2 i l[i] true) (fun r => r = (firstsF (nodes x) l).1) := fun ht => by
      unfold view_firsts.J2
      refine sat_t rfl (hag _ ⟨i + 1, ?_, by omega, ?_, ?_⟩ ?_)
      · rw [w64_succ (by omega) (by omega)]; simp
      · rw [snoc]; unfold stepF; rw [if_neg ht]
      · rw [snoc]; unfold stepF; rw [if_neg ht]
      · simp only; rw [w64_succ (by omega) (by omega)]; omega
    refine sat_if (fun k1 => ?_) (fun k1 => skip (fun ht => k1 ht.1))
    refine sat_if (fun k2 => skip (fun ht => by have := ht.2.1; omega)) (fun k2 => ?_)
    refine sat_if (fun k3 => skip (fun ht => by have := ht.2.2.1; omega)) (fun k3 => ?_)
    refine sat_b (must_eq (by omega)) ?_
    obtain ⟨f, hf⟩ : ∃ f : Nat, l[i].From = f := ⟨l[i].From.toNat, by omega⟩
    rw [hf, bit_eq hc (by omega)]
    cases hb : s.2.testBit f with
    | true => exact skip (fun ht => by have := ht.2.2.2; rw [hf, Int.toNat_natCast, hb] at this; cases this)
    | false =>
      have ht : takes (nodes x) s.2 l[i] := ⟨k1, by omega, by omega, by rw [hf, Int.toNat_natCast, hb]⟩
      unfold view_firsts.J2
      refine sat_f (by simp) (sat_b (must_eq (by omega)) (sat_b (app_eq (by simp only [List.length_singleton]; omega)) (hag _ ⟨i + 1, ?_, by omega, ?_, ?_⟩ ?_)))
      · rw [w64_succ (by omega) (by omega)]; simp
      · rw [snoc]; unfold stepF; rw [if_pos ht]
      · rw [snoc]; unfold stepF; rw [if_pos ht]; simp only [hf]; rw [or_bit hc (by omega)]; rfl
      · simp only; rw [w64_succ (by omega) (by omega)]; omega
  · have : i = l.length := by omega
    subst this
    unfold view_firsts.J1
    rw [List.take_length]
    exact sat_r rfl
/-! ### whom one chooses -/
def Cand (out : List api_Msg) (m : api_Msg) : Prop := m.Has = true ∧ m.Inst = (topF out).2
def Over (b c : api_Msg) : Prop := c.Len < b.Len ∨ (c.Len = b.Len ∧ b.From ≤ c.From)
def Best (out part : List api_Msg) (b : api_Msg) : Prop := b ∈ part ∧ Cand out b ∧ ∀ c ∈ part, Cand out c → Over b c
def Chosen (n : Nat) (l : List api_Msg) (r : Int × Int × Int × Bool) : Prop :=
  (r = (0, 0, 0, false) ∧ ((∀ m ∈ (firstsF n l).1, ¬ Cand (firstsF n l).1 m) ∨ mostN (firstsF n l).2 n = false)) ∨
  (∃ b, Best (firstsF n l).1 (firstsF n l).1 b ∧ r = (((firstsF n l).2 : Int), b.From, b.Len, true) ∧ mostN (firstsF n l).2 n = true)
theorem Chosen.eq {n : Nat} {l : List api_Msg} {r s : Int × Int × Int × Bool} (h : Chosen n l r) (k : Chosen n l s) : r = s := by
  rcases h with ⟨h1, h2⟩ | ⟨b, h1, h2, h3⟩ <;> rcases k with ⟨k1, k2⟩ | ⟨d, k1, k2, k3⟩
  · rw [h1, k1]
  · rcases h2 with h2 | h2
    · exact absurd k1.2.1 (h2 d k1.1)
    · rw [h2] at k3; cases k3
  · rcases k2 with k2 | k2
    · exact absurd h1.2.1 (k2 b h1.1)
    · rw [k2] at h3; cases h3
  · have e1 := h1.2.2 d k1.1 k1.2.1
    have e2 := k1.2.2 b h1.1 h1.2.1
    unfold Over at e1 e2
    have : b.Len = d.Len := by omega
    have : b.From = d.From := by omega
    rw [h2, k2]
    simp only [*]
theorem choose_eq {l : List api_Msg} {K : Nat} (hl : l.length ≤ 1000000) (hK : l.length < K) (x : Int) : Sat (view_Choose.f K l x) (Chosen (nodes x) l) := by
  obtain ⟨hn, hn1, hn7⟩ := nodes_eq x
  unfold view_Choose.f
  refine sat_b (firsts_eq hl hK x) ?_
  have inv := firstsF_inv (nodes x) l hl
  have hfl := firstsF_len (nodes x) l
  have hc : (firstsF (nodes x) l).2 < 128 := Nat.lt_of_lt_of_le inv.lt ((Nat.pow_le_pow_right (by decide) hn7 : 2 ^ nodes x ≤ 2 ^ 7))
  unfold Chosen
  generalize firstsF (nodes x) l = s at *
  obtain ⟨out, c⟩ := s
  simp only at *
  have fin : ∀ b : api_Msg, (b ∈ out ∧ Cand out b ∧ ∀ c ∈ out, Cand out c → Over b c) → Sat (view_Choose.J2 K c x true b) (fun r => (r = (0, 0, 0, false) ∧ ((∀ m ∈ out, ¬ Cand out m) ∨ mostN c (nodes x) = false)) ∨ ∃ b, Best out out b ∧ r = ((c : Int), b.From, b.Len, true) ∧ mostN c (nodes x) = true) := fun b hb => by
    unfold view_Choose.J2
    refine sat_t rfl (sat_b (most_eq (by omega) x) ?_)
    unfold view_Choose.J3
    cases hm : mostN c (nodes x) with
    | true => exact sat_f (by simp) (sat_r (.inr ⟨b, hb, rfl, rfl⟩))
    | false => exact sat_t (by simp) (sat_r (.inl ⟨rfl, .inr rfl⟩))
  have fin0 : ∀ b : api_Msg, (∀ m ∈ out, ¬ Cand out m) → Sat (view_Choose.J2 K c x false b) (fun r => (r = (0, 0, 0, false) ∧ ((∀ m ∈ out, ¬ Cand out m) ∨ mostN c (nodes x) = false)) ∨ ∃ b, Best out out b ∧ r = ((c : Int), b.From, b.Len, true) ∧ mostN c (nodes x) = true) := fun b hb => by
    unfold view_Choose.J2
    refine sat_f (by simp) ?_
    unfold view_Choose.J3
    exact sat_t rfl (sat_r (.inl ⟨rfl, .inl hb⟩))
  have one : Sat (view_Choose.J1 K out x c (topF out).2) (fun r => (r = (0, 0, 0, false) ∧ ((∀ m ∈ out, ¬ Cand out m) ∨ mostN c (nodes x) = false)) ∨ ∃ b, Best out out b ∧ r = ((c : Int), b.From, b.Len, true) ∧ mostN c (nodes x) = true) := by
    unfold view_Choose.J1
    refine sat_loop (fun v : Bool × Int × api_Msg => (out.length - v.2.1).toNat) (fun v => ∃ i : Nat, v.2.1 = i ∧ i ≤ out.length ∧ ((v.1 = false ∧ ∀ m ∈ out.take i, ¬ Cand out m) ∨ (v.1 = true ∧ Best out (out.take i) v.2.2))) ?_ K _ ⟨0, rfl, by omega, .inl ⟨rfl, by simp⟩⟩ (by simp only; omega)
    rintro ⟨ok, j, b⟩ ⟨i, h1, h2, h3⟩ ag hag
    simp only at h1 h2 h3
    subst h1
    show Sat (view_Choose.B1 K out _ _ ag ok i b) _
    unfold view_Choose.B1
    dsimp only
    refine sat_if (fun hlt => ?_) (fun hge => ?_)
    · have hi : i < out.length := by omega
      refine sat_b (ix_get (by omega) (by simpa using hi)) ?_
      simp only [Int.toNat_natCast]
      have htk := take_snoc hi
      have hw : w64 ((i : Int) + 1) = ((i + 1 : Nat) : Int) := by rw [w64_succ (by omega) (by omega)]; simp
      have skip : (¬ Cand out out[i] ∨ (ok = true ∧ Over b out[i])) → Sat (view_Choose.J4 K ag i out[i] ok b false) _ := fun hs => by
        unfold view_Choose.J4
        refine sat_f (by simp) (hag _ ⟨i + 1, hw, by omega, ?_⟩ (by simp only; rw [hw]; omega))
        simp only
        rw [htk]
        rcases h3 with ⟨k1, k2⟩ | ⟨k1, k2⟩
        · refine .inl ⟨k1, fun m hm => ?_⟩
          simp only [List.mem_append, List.mem_singleton] at hm
          rcases hm with hm | rfl
          · exact k2 m hm
          · rcases hs with hs | hs
            · exact hs
            · rw [k1] at hs; cases hs.1
        · refine .inr ⟨k1, List.mem_append_left _ k2.1, k2.2.1, fun m hm hcm => ?_⟩
          simp only [List.mem_append, List.mem_singleton] at hm
          rcases hm with hm | rfl
          · exact k2.2.2 m hm hcm
          · rcases hs with hs | hs
            · exact absurd hcm hs
            · exact hs.2
      have put : Cand out out[i] → (ok = true → out[i].Len > b.Len ∨ (out[i].Len = b.Len ∧ out[i].From < b.From)) → Sat (view_Choose.J4 K ag i out[i] ok b true) _ := fun hs hb => by
        unfold view_Choose.J4
        refine sat_t rfl (hag _ ⟨i + 1, hw, by omega, ?_⟩ (by simp only; rw [hw]; omega))
        simp only
        rw [htk]
        refine .inr ⟨by simp, List.mem_append_right _ (by simp), hs, fun m hm hcm => ?_⟩
        simp only [List.mem_append, List.mem_singleton] at hm
        rcases hm with hm | rfl
        · rcases h3 with ⟨k1, k2⟩ | ⟨k1, k2⟩
          · exact absurd hcm (k2 m hm)
          · have e1 := k2.2.2 m hm hcm
            have e2 := hb k1
            unfold Over at *
            omega
        · unfold Over; omega
      refine sat_if (fun c1 => ?_) (fun c1 => skip (.inl fun h => c1 h.1))
      refine sat_if (fun c2 => ?_) (fun c2 => skip (.inl fun h => c2 h.2))
      refine sat_if (fun c3 => ?_) (fun c3 => put ⟨c1, c2⟩ (fun h => absurd h c3))
      unfold view_better.f
      by_cases g1 : out[i].Len > b.Len
      · rw [if_pos g1]
        exact put ⟨c1, c2⟩ (fun _ => .inl g1)
      · rw [if_neg g1]
        by_cases g2 : out[i].Len = b.Len
        · rw [if_pos g2]
          by_cases g3 : out[i].From < b.From
          · refine sat_b rfl ?_
            rw [decide_eq_true g3]
            exact put ⟨c1, c2⟩ (fun _ => .inr ⟨g2, g3⟩)
          · refine sat_b rfl ?_
            rw [decide_eq_false g3]
            exact skip (.inr ⟨c3, by unfold Over; omega⟩)
        · rw [if_neg g2]
          exact skip (.inr ⟨c3, by unfold Over; omega⟩)
    · have : i = out.length := by omega
      subst this
      rw [List.take_length] at h3
      rcases h3 with ⟨k1, k2⟩ | ⟨k1, k2⟩
      · subst k1; exact fin0 b k2
      · subst k1; exact fin b k2
  refine sat_loop (fun v : Int × Int × Int => (out.length - v.2.2).toNat) (fun v => ∃ i : Nat, v.2.2 = i ∧ i ≤ out.length ∧ v.1 = (maskF (out.take i) : Int) ∧ v.2.1 = (topF (out.take i)).2 ∧ maskF (out.take i) < 128) ?_ K _ ⟨0, rfl, by omega, rfl, rfl, by simp [maskF]⟩ (by simp only; omega)
  rintro ⟨mk, tp, j⟩ ⟨i, h1, h2, h3, h4, h5⟩ ag hag
  simp only at h1 h2 h3 h4 h5
  subst h1 h3 h4
  show Sat (view_Choose.B2 K out _ ag _ _ _) _
  unfold view_Choose.B2
  dsimp only
  refine sat_if (fun hlt => ?_) (fun hge => ?_)
  · have hi : i < out.length := by omega
    have hm := inv.mem out[i] (List.getElem_mem _)
    refine sat_b (ix_get (by omega) (by simpa using hi)) ?_
    simp only [Int.toNat_natCast]
    refine sat_b (must_eq (by omega)) ?_
    have htk := take_snoc hi
    have hw : w64 ((i : Int) + 1) = ((i + 1 : Nat) : Int) := by rw [w64_succ (by omega) (by omega)]; simp
    obtain ⟨f, hf⟩ : ∃ f : Nat, out[i].From = f := ⟨out[i].From.toNat, by omega⟩
    have hor : bor .i64 ((maskF (out.take i) : Nat) : Int) (shl .i64 1 out[i].From) = (maskF (out.take (i + 1)) : Int) := by
      rw [htk, maskF_snoc, hf, or_bit h5 (by omega)]; simp
    have hlt2 : maskF (out.take (i + 1)) < 128 := by
      rw [htk, maskF_snoc]
      exact or_lt (n := 7) h5 (by omega)
    have htop : topF (out.take (i + 1)) = stepT (topF (out.take i)) out[i] := by rw [htk, topF_snoc]
    have hone := topF_one (out.take i)
    have go : ∀ q : Bool, (q = true ↔ ((topF (out.take i)).1 = false ∨ (topF (out.take i)).2 < out[i].Inst)) → Sat (view_Choose.J5 K ag ((maskF (out.take i) : Nat) : Int) out[i] i (topF (out.take i)).2 q) _ := fun q hq => by
      unfold view_Choose.J5
      refine sat_if (fun hp => ?_) (fun hp => ?_)
      · refine hag _ ⟨i + 1, hw, by omega, hor, ?_, hlt2⟩ (by simp only; rw [hw]; omega)
        rw [htop]; unfold stepT; rw [if_pos (hq.1 hp)]
      · refine hag _ ⟨i + 1, hw, by omega, hor, ?_, hlt2⟩ (by simp only; rw [hw]; omega)
        rw [htop]; unfold stepT; rw [if_neg (fun h => hp (hq.2 h))]
    refine sat_if (fun h0 => ?_) (fun h0 => ?_)
    · refine go true ?_
      have : i = 0 := by omega
      subst this
      exact ⟨fun _ => .inl rfl, fun _ => rfl⟩
    · refine go _ ?_
      have : (topF (out.take i)).1 = true := by
        rw [hone]
        have : (out.take i).length ≠ 0 := by simp only [List.length_take]; omega
        cases hh : out.take i with
        | nil => rw [hh] at this; exact absurd rfl this
        | cons => rfl
      rw [this]
      simp
  · have : i = out.length := by omega
    subst this
    rw [List.take_length, inv.mask]
    exact one
end Go.Gp
