/- Plain laws of these words. -/
import Derived.Test.YtploijfgnnkddaaLa
/- Plain laws of the words in which the functions are told. -/
namespace Go.Gp
open Go
theorem app_eq {α : Type} {lim : Nat} {xs ys : List α} (h : xs.length + ys.length ≤ lim) : app lim xs ys = some (xs ++ ys) := if_pos h
theorem must_eq {p : Prop} [Decidable p] (h : p) : must p = some () := if_pos h
theorem ix_eq {α : Type} {xs : List α} {i : Int} {x : α} (h : 0 ≤ i) (hx : xs[i.toNat]? = some x) : ix xs i = some x := by
  unfold ix; rw [if_pos h]; exact hx
theorem ix_get {α : Type} {xs : List α} {i : Int} (h : 0 ≤ i) (hx : i.toNat < xs.length) : ix xs i = some (xs[i.toNat]) := ix_eq h (List.getElem?_eq_getElem hx)
theorem cut_eq {α : Type} {xs : List α} {lo hi : Int} (h : 0 ≤ lo ∧ lo ≤ hi ∧ hi ≤ (xs.length : Int)) : cut xs lo hi = some ((xs.take hi.toNat).drop lo.toNat) := if_pos h
/-- The last bits of a number. -/
theorem band_mask (x : Int) (k : Nat) (hk : k < 63) : band .i64 x (2 ^ k - 1) = x % 2 ^ k := by
  have h1 : (BitVec.ofInt 64 x &&& BitVec.ofInt 64 (2 ^ k - 1)).toNat = (x % 2 ^ k).toNat := by
    rw [BitVec.toNat_and, BitVec.toNat_ofInt, BitVec.toNat_ofInt]
    have hp : (0 : Int) < 2 ^ k := Int.pow_pos (by decide)
    have hle : (2 : Int) ^ k ≤ 2 ^ 62 := by
      have : (2 : Nat) ^ k ≤ 2 ^ 62 := Nat.pow_le_pow_right (by decide) (by omega)
      exact_mod_cast this
    have e1 : ((2 ^ k - 1 : Int) % ((2 ^ 64 : Nat) : Int)).toNat = 2 ^ k - 1 := by
      rw [Int.emod_eq_of_lt (by omega) (by
        have : ((2 ^ 64 : Nat) : Int) = 2 ^ 64 := by norm_cast
        rw [this]; omega)]
      have : (2 ^ k - 1 : Int) = ((2 ^ k - 1 : Nat) : Int) := by
        rw [Int.ofNat_sub (Nat.one_le_two_pow)]; norm_cast
      rw [this]; rfl
    rw [e1, Nat.and_two_pow_sub_one_eq_mod]
    have e2 : ((x % ((2 ^ 64 : Nat) : Int)).toNat : Int) = x % ((2 ^ 64 : Nat) : Int) := Int.toNat_of_nonneg (Int.emod_nonneg _ (by decide))
    have e3 : (((x % ((2 ^ 64 : Nat) : Int)).toNat % 2 ^ k : Nat) : Int) = x % 2 ^ k := by
      rw [Int.natCast_emod, e2]
      rw [show (((2 : Nat) ^ k : Nat) : Int) = (2 : Int) ^ k by norm_cast]
      refine Int.emod_emod_of_dvd _ ?_
      rw [show (((2 : Nat) ^ 64 : Nat) : Int) = (2 : Int) ^ k * 2 ^ (64 - k) by rw [← Int.pow_add]; norm_cast; congr 1; omega]
      exact Int.dvd_mul_right _ _
    omega
  unfold band
  show w64 _ = _
  rw [show IntKind.i64.bits = 64 from rfl, h1]
  have hp : (0 : Int) < 2 ^ k := Int.pow_pos (by decide)
  have h2 := Int.emod_nonneg x (Int.ne_of_gt hp)
  have h3 := Int.emod_lt_of_pos x hp
  have hle : (2 : Int) ^ k ≤ 2 ^ 62 := by
    have : (2 : Nat) ^ k ≤ 2 ^ 62 := Nat.pow_le_pow_right (by decide) (by omega)
    exact_mod_cast this
  rw [Int.toNat_of_nonneg h2, w64_id (by omega)]
theorem tmod_nn {x y : Int} (h : 0 ≤ x) (hy : 0 < y) : 0 ≤ x.tmod y ∧ x.tmod y < y := by
  rw [Int.tmod_eq_emod_of_nonneg h]
  exact ⟨Int.emod_nonneg _ (by omega), Int.emod_lt_of_pos _ hy⟩
/-- A loop whose end is what g tells of its begin. -/
theorem w64_succ {n : Int} (h : 0 ≤ n) (h2 : n < 9223372036854775807) : w64 (n + 1) = n + 1 := w64_id (by omega)
theorem mn_eq (x y : Int) : mn x y = min x y := by unfold mn; omega
theorem mx_eq (x y : Int) : mx x y = max x y := by unfold mx; omega
/-! ### what comes of it, step by step -/
/-- It comes to an end, with a result of which R holds. -/
def Sat {β : Type} (x : Option β) (R : β → Prop) : Prop := ∃ r, x = some r ∧ R r
section
variable {α β : Type} {R : β → Prop}
theorem sat_r {v : β} (h : R v) : Sat (some v) R := ⟨v, rfl, h⟩
theorem sat_b {e : Option α} {f : α → Option β} {v : α} (h : e = some v) (k : Sat (f v) R) : Sat (Option.bind e f) R := by subst h; exact k
theorem sat_bs {e : Option α} {f : α → Option β} {S : α → Prop} (h : Sat e S) (k : ∀ v, S v → Sat (f v) R) : Sat (Option.bind e f) R := by
  obtain ⟨v, rfl, h1⟩ := h
  exact k v h1
theorem sat_if {p : Prop} [Decidable p] {x y : Option β} (h : p → Sat x R) (k : ¬p → Sat y R) : Sat (if p then x else y) R := by
  by_cases hp : p
  · rw [if_pos hp]; exact h hp
  · rw [if_neg hp]; exact k hp
theorem sat_t {p : Prop} [Decidable p] {x y : Option β} (h : p) (k : Sat x R) : Sat (if p then x else y) R := by rw [if_pos h]; exact k
theorem sat_f {p : Prop} [Decidable p] {x y : Option β} (h : ¬p) (k : Sat y R) : Sat (if p then x else y) R := by rw [if_neg h]; exact k
/-- A loop: some number falls in each round. -/
theorem sat_loop {f : (α → Option β) → α → Option β} (μ : α → Nat) (Inv : α → Prop)
    (h : ∀ v, Inv v → ∀ ag : α → Option β, (∀ v', Inv v' → μ v' < μ v → Sat (ag v') R) → Sat (f ag v) R) :
    ∀ (K : Nat) (v : α), Inv v → μ v < K → Sat (iter f K v) R := by
  intro K
  induction K with
  | zero => intro v _ hk; omega
  | succ K ih =>
    intro v hv hk
    rw [iter_succ]
    exact h v hv _ (fun v' h1 h2 => ih v' h1 (by omega))
theorem sat_pure {x : Option Unit} (h : Sat x (fun _ => True)) : ∃ r, x = some r := by
  obtain ⟨r, h1, _⟩ := h
  exact ⟨r, h1⟩
end
/-- A number's last bits, by hand: 2, 3, .. bits. -/
theorem band_le (x : Int) (k : Nat) (hk : k < 63) : 0 ≤ band .i64 x (2 ^ k - 1) ∧ band .i64 x (2 ^ k - 1) < 2 ^ k := by
  rw [band_mask x k hk]
  have hp : (0 : Int) < 2 ^ k := Int.pow_pos (by decide)
  exact ⟨Int.emod_nonneg x (Int.ne_of_gt hp), Int.emod_lt_of_pos x hp⟩
/-- A loop that seeks the first of which p holds. -/
theorem find_iter {α : Type} {xs : List α} {p : α → Bool} {f : (Int → Option Int) → Int → Option Int}
    (step : ∀ ag (i : Nat) (h : i < xs.length), f ag (i : Int) = if p xs[i] = true then some (i : Int) else ag ((i + 1 : Nat) : Int)) (fin : ∀ ag, f ag (xs.length : Int) = some (-1)) :
    ∀ (n i K : Nat), i + n = xs.length → n < K → iter f K (i : Int) = some (match (xs.drop i).findIdx? p with | some k => ((i + k : Nat) : Int) | none => -1) := by
  intro n
  induction n with
  | zero =>
    intro i K hi hK
    obtain ⟨k, rfl⟩ : ∃ k, K = k + 1 := ⟨K - 1, by omega⟩
    rw [iter_succ, show i = xs.length by omega, fin, List.drop_length]
    rfl
  | succ n ih =>
    intro i K hi hK
    obtain ⟨k, rfl⟩ : ∃ k, K = k + 1 := ⟨K - 1, by omega⟩
    have h : i < xs.length := by omega
    rw [iter_succ, step _ _ h, List.drop_eq_getElem_cons h, List.findIdx?_cons]
    cases hp : p xs[i] with
    | true => simp
    | false =>
      rw [if_neg (by simp), ih (i + 1) k (by omega) (by omega)]
      simp only [Bool.false_eq_true, if_false]
      cases (xs.drop (i + 1)).findIdx? p with
      | none => rfl
      | some q =>
        simp only [Option.map_some]
        rw [show i + 1 + q = i + (q + 1) by omega]
/-- A loop that compares two rows, one element behind the other. -/
theorem eq_iter {α : Type} {R : α → α → Bool} {xs ys : List α} (hl : xs.length = ys.length) {f : (Int → Option Bool) → Int → Option Bool}
    (step : ∀ ag (i : Nat) (h : i < xs.length) (h' : i < ys.length), f ag (i : Int) = if R xs[i] ys[i] = true then ag ((i + 1 : Nat) : Int) else some false) (fin : ∀ ag, f ag (xs.length : Int) = some true) :
    ∀ (n i K : Nat), i + n = xs.length → n < K → iter f K (i : Int) = some (((xs.drop i).zip (ys.drop i)).all fun p => R p.1 p.2) := by
  intro n
  induction n with
  | zero =>
    intro i K hi hK
    obtain ⟨k, rfl⟩ : ∃ k, K = k + 1 := ⟨K - 1, by omega⟩
    rw [iter_succ, show i = xs.length by omega, fin, List.drop_length]
    rfl
  | succ n ih =>
    intro i K hi hK
    obtain ⟨k, rfl⟩ : ∃ k, K = k + 1 := ⟨K - 1, by omega⟩
    have h : i < xs.length := by omega
    have h' : i < ys.length := by omega
    rw [iter_succ, step _ _ h h', List.drop_eq_getElem_cons h, List.drop_eq_getElem_cons h', List.zip_cons_cons, List.all_cons]
    cases hp : R xs[i] ys[i] with
    | true => rw [if_pos rfl, ih (i + 1) k (by omega) (by omega)]; rfl
    | false => rw [if_neg (by simp)]; rfl
theorem zip_all_eq {α : Type} [DecidableEq α] : ∀ {xs ys : List α}, xs.length = ys.length → ((xs.zip ys).all fun p => decide (p.1 = p.2)) = decide (xs = ys)
  | [], [], _ => rfl
  | x :: xs, y :: ys, h => by
    rw [List.zip_cons_cons, List.all_cons, zip_all_eq (by simpa using h)]
    by_cases h1 : x = y <;> by_cases h2 : xs = ys <;> simp [h1, h2]
/-- Without the first that is y. -/
theorem find_erase {α : Type} [DecidableEq α] (y : α) : ∀ (xs : List α) (i : Nat), xs.findIdx? (fun x => decide (x = y)) = some i → i < xs.length ∧ xs[i]? = some y ∧ xs.take i ++ xs.drop (i + 1) = xs.erase y
  | [], i, h => by simp at h
  | x :: xs, i, h => by
    rw [List.findIdx?_cons] at h
    by_cases hx : x = y
    · rw [if_pos (decide_eq_true hx)] at h
      cases h
      subst hx
      simp
    · rw [if_neg (by simp [hx])] at h
      cases hf : xs.findIdx? (fun x => decide (x = y)) with
      | none => rw [hf] at h; cases h
      | some k =>
        rw [hf] at h
        cases h
        obtain ⟨h1, h2, h3⟩ := find_erase y xs k hf
        refine ⟨by simp; omega, by simpa using h2, ?_⟩
        rw [List.erase_cons_tail (by simpa using hx), ← h3]
        rfl
theorem find_none {α : Type} [DecidableEq α] (y : α) (xs : List α) (h : xs.findIdx? (fun x => decide (x = y)) = none) : y ∉ xs := fun hy => by
  rw [List.findIdx?_eq_none_iff] at h
  have := h y hy
  simp at this
theorem find_mem {α : Type} [DecidableEq α] {y : α} {xs : List α} {i : Nat} (h : xs.findIdx? (fun x => decide (x = y)) = some i) : y ∈ xs := List.mem_of_getElem? (find_erase y xs i h).2.1
end Go.Gp
