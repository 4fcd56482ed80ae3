/- Plain laws of these words. -/
import Derived.Test.YtploijfgnnkddaaGreatLa
/- Plain laws of the words in which the functions are told. -/
namespace Go.Gp
open Go
theorem R6 {α : Type} {lim : Nat} {xs ys : List α} (h : xs.length + ys.length ≤ lim) : app lim xs ys = some (xs ++ ys) := if_pos h
theorem A2U {p : Prop} [Decidable p] (h : p) : A3D p = some () := if_pos h
theorem A7d {α : Type} {xs : List α} {i : Int} {x : α} (h : 0 ≤ i) (hx : xs[i.toNat]? = some x) : ix xs i = some x := by
  unfold ix; rw [if_pos h]; exact hx
theorem O7 {α : Type} {xs : List α} {i : Int} (h : 0 ≤ i) (hx : i.toNat < xs.length) : ix xs i = some (xs[i.toNat]) := A7d h (List.getElem?_eq_getElem hx)
theorem A1f {α : Type} {xs : List α} {lo hi : Int} (h : 0 ≤ lo ∧ lo ≤ hi ∧ hi ≤ (xs.length : Int)) : cut xs lo hi = some ((xs.take hi.toNat).drop lo.toNat) := if_pos h
theorem A6R (x : Int) (k : Nat) (hk : k < 63) : F0 .i64 x (2 ^ k - 1) = x % 2 ^ k := by
  have h1 : (BitVec.ofInt 64 x &&& BitVec.ofInt 64 (2 ^ k - 1)).toNat = (x % 2 ^ k).toNat := by
    rw [BitVec.toNat_and, BitVec.toNat_ofInt, BitVec.toNat_ofInt]; have hp : (0 : Int) < 2 ^ k := Int.pow_pos (by decide); have hle : (2 : Int) ^ k ≤ 2 ^ 62 := by
      have : (2 : Nat) ^ k ≤ 2 ^ 62 := Nat.pow_le_pow_right (by decide) (by omega)
      exact_mod_cast this
    have e1 : ((2 ^ k - 1 : Int) % ((2 ^ 64 : Nat) : Int)).toNat = 2 ^ k - 1 := by
      rw [Int.emod_eq_of_lt (by omega) (by
        have : ((2 ^ 64 : Nat) : Int) = 2 ^ 64 := by norm_cast
        rw [this]; omega)]
      have : (2 ^ k - 1 : Int) = ((2 ^ k - 1 : Nat) : Int) := by
        rw [Int.ofNat_sub (Nat.one_le_two_pow)]; norm_cast
      rw [this]; rfl
    rw [e1, Nat.and_two_pow_sub_one_eq_mod]; have e2 : ((x % ((2 ^ 64 : Nat) : Int)).toNat : Int) = x % ((2 ^ 64 : Nat) : Int) := Int.toNat_of_nonneg (Int.emod_nonneg _ (by decide)); have e3 : (((x % ((2 ^ 64 : Nat) : Int)).toNat % 2 ^ k : Nat) : Int) = x % 2 ^ k := by
      rw [Int.natCast_emod, e2]; rw [show (((2 : Nat) ^ k : Nat) : Int) = (2 : Int) ^ k by norm_cast]; refine Int.emod_emod_of_dvd _ ?_; rw [show (((2 : Nat) ^ 64 : Nat) : Int) = (2 : Int) ^ k * 2 ^ (64 - k) by rw [← Int.pow_add]; norm_cast; congr 1; omega]; exact Int.dvd_mul_right _ _
    omega
  unfold F0; show w64 _ = _; rw [show IntKind.i64.bits = 64 from rfl, h1]; have hp : (0 : Int) < 2 ^ k := Int.pow_pos (by decide); have h2 := Int.emod_nonneg x (Int.ne_of_gt hp); have h3 := Int.emod_lt_of_pos x hp; have hle : (2 : Int) ^ k ≤ 2 ^ 62 := by
    have : (2 : Nat) ^ k ≤ 2 ^ 62 := Nat.pow_le_pow_right (by decide) (by omega)
    exact_mod_cast this
  rw [Int.toNat_of_nonneg h2, T9 (by omega)]
theorem A8e {x y : Int} (h : 0 ≤ x) (hy : 0 < y) : 0 ≤ x.tmod y ∧ x.tmod y < y := by
  rw [Int.tmod_eq_emod_of_nonneg h]; exact ⟨Int.emod_nonneg _ (by omega), Int.emod_lt_of_pos _ hy⟩
theorem B0r {α β : Type} {f : (α → Option β) → α → Option β} (μ : α → Nat) (Inv : α → Prop) (g : α → Option β)
    (h : ∀ v, Inv v → (∃ v', Inv v' ∧ μ v' < μ v ∧ g v' = g v ∧ ∀ ag, f ag v = ag v') ∨ (∀ ag, f ag v = g v)) :
    ∀ (k : Nat) (v : α), Inv v → μ v < k → S4 f k v = g v := by
  intro k
  induction k with
  | zero => intro v _ hk; omega
  | succ k ih =>
    intro v hv hk; rw [X5]
    rcases h v hv with ⟨v', h1, h2, h3, h4⟩ | h1
    · rw [h4, ih v' h1 (by omega), h3]
    · exact h1 _
theorem A2w {n : Int} (h : 0 ≤ n) (h2 : n < 9223372036854775807) : w64 (n + 1) = n + 1 := T9 (by omega)
theorem A7c (x y : Int) : mn x y = min x y := by unfold mn; omega
theorem A8Q (x y : Int) : mx x y = max x y := by unfold mx; omega
def Sat {β : Type} (x : Option β) (R : β → Prop) : Prop := ∃ r, x = some r ∧ R r
section
variable {α β : Type} {R : β → Prop}
theorem O4 {v : β} (h : R v) : Sat (some v) R := ⟨v, rfl, h⟩
theorem E4 {e : Option α} {f : α → Option β} {v : α} (h : e = some v) (k : Sat (f v) R) : Sat (Option.bind e f) R := by subst h; exact k
theorem A0a {e : Option α} {f : α → Option β} {S : α → Prop} (h : Sat e S) (k : ∀ v, S v → Sat (f v) R) : Sat (Option.bind e f) R := by
  obtain ⟨v, rfl, h1⟩ := h; exact k v h1
theorem J9 {p : Prop} [Decidable p] {x y : Option β} (h : p → Sat x R) (k : ¬p → Sat y R) : Sat (if p then x else y) R := by
  by_cases hp : p
  · rw [if_pos hp]; exact h hp
  · rw [if_neg hp]; exact k hp
theorem A2q {p : Prop} [Decidable p] {x y : Option β} (h : p) (k : Sat x R) : Sat (if p then x else y) R := by rw [if_pos h]; exact k
theorem A1L {p : Prop} [Decidable p] {x y : Option β} (h : ¬p) (k : Sat y R) : Sat (if p then x else y) R := by rw [if_neg h]; exact k
theorem B0c {x : Option β} {S : β → Prop} (h : Sat x S) (k : ∀ v, S v → R v) : Sat x R := by
  obtain ⟨v, h1, h2⟩ := h; exact ⟨v, h1, k v h2⟩
theorem B0S {x : Option β} {S : β → Prop} (h : Sat x R) (k : Sat x S) : Sat x (fun v => R v ∧ S v) := by
  obtain ⟨v, h1, h2⟩ := h; obtain ⟨u, h3, h4⟩ := k; rw [h1] at h3; cases h3; exact ⟨v, h1, h2, h4⟩
theorem A1b {f : (α → Option β) → α → Option β} (μ : α → Nat) (Inv : α → Prop)
    (h : ∀ v, Inv v → ∀ ag : α → Option β, (∀ v', Inv v' → μ v' < μ v → Sat (ag v') R) → Sat (f ag v) R) :
    ∀ (K : Nat) (v : α), Inv v → μ v < K → Sat (S4 f K v) R := by
  intro K
  induction K with
  | zero => intro v _ hk; omega
  | succ K ih =>
    intro v hv hk; rw [X5]; exact h v hv _ (fun v' h1 h2 => ih v' h1 (by omega))
theorem B0b {x : Option Unit} (h : Sat x (fun _ => True)) : ∃ r, x = some r := by
  obtain ⟨r, h1, _⟩ := h; exact ⟨r, h1⟩
end
theorem B1w (x : Int) (k : Nat) (hk : k < 63) : 0 ≤ F0 .i64 x (2 ^ k - 1) ∧ F0 .i64 x (2 ^ k - 1) < 2 ^ k := by
  rw [A6R x k hk]; have hp : (0 : Int) < 2 ^ k := Int.pow_pos (by decide); exact ⟨Int.emod_nonneg x (Int.ne_of_gt hp), Int.emod_lt_of_pos x hp⟩
theorem A6L {α : Type} {xs : List α} {p : α → Bool} {f : (Int → Option Int) → Int → Option Int}
    (step : ∀ ag (i : Nat) (h : i < xs.length), f ag (i : Int) = if p xs[i] = true then some (i : Int) else ag ((i + 1 : Nat) : Int)) (fin : ∀ ag, f ag (xs.length : Int) = some (-1)) :
    ∀ (n i K : Nat), i + n = xs.length → n < K → S4 f K (i : Int) = some (match (xs.drop i).findIdx? p with | some k => ((i + k : Nat) : Int) | none => -1) := by
  intro n
  induction n with
  | zero =>
    intro i K hi hK; obtain ⟨k, rfl⟩ : ∃ k, K = k + 1 := ⟨K - 1, by omega⟩; rw [X5, show i = xs.length by omega, fin, List.drop_length]
    rfl
  | succ n ih =>
    intro i K hi hK; obtain ⟨k, rfl⟩ : ∃ k, K = k + 1 := ⟨K - 1, by omega⟩; have h : i < xs.length := by omega
    rw [X5, step _ _ h, List.drop_eq_getElem_cons h, List.findIdx?_cons]
    cases hp : p xs[i] with
    | true => simp
    | false =>
      rw [if_neg (by simp), ih (i + 1) k (by omega) (by omega)]; simp only [Bool.false_eq_true, if_false]
      cases (xs.drop (i + 1)).findIdx? p with
      | none => rfl
      | some q =>
        simp only [Option.map_some]; rw [show i + 1 + q = i + (q + 1) by omega]
theorem A4x {α : Type} [DecidableEq α] (y : α) : ∀ (xs : List α) (i : Nat), xs.findIdx? (fun x => decide (x = y)) = some i → i < xs.length ∧ xs[i]? = some y ∧ xs.take i ++ xs.drop (i + 1) = xs.erase y
  | [], i, h => by simp at h
  | x :: xs, i, h => by
    rw [List.findIdx?_cons] at h
    by_cases hx : x = y
    · rw [if_pos (decide_eq_true hx)] at h; cases h; subst hx; simp
    · rw [if_neg (by simp [hx])] at h
      cases hf : xs.findIdx? (fun x => decide (x = y)) with
      | none => rw [hf] at h; cases h
      | some k =>
        rw [hf] at h; cases h; obtain ⟨h1, h2, h3⟩ := A4x y xs k hf; refine ⟨by simp; omega, by simpa using h2, ?_⟩; rw [List.erase_cons_tail (by simpa using hx), ← h3]
        rfl
theorem A9L {α : Type} [DecidableEq α] (y : α) (xs : List α) (h : xs.findIdx? (fun x => decide (x = y)) = none) : y ∉ xs := fun hy => by
  rw [List.findIdx?_eq_none_iff] at h; have := h y hy; simp at this
theorem B0u {α : Type} [DecidableEq α] {y : α} {xs : List α} {i : Nat} (h : xs.findIdx? (fun x => decide (x = y)) = some i) : y ∈ xs := List.mem_of_getElem? (A4x y xs i h).2.1
end Go.Gp
