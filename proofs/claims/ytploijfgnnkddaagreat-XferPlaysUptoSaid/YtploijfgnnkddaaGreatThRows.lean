/- What the statements say, of the plain functions. -/
import Derived.Test.YtploijfgnnkddaaGreatDefs
import Derived.Test.YtploijfgnnkddaaGreatLe
import Derived.Test.YtploijfgnnkddaaGreatThInts
import Derived.Test.YtploijfgnnkddaaGreatThPack
import Derived.Test.YtploijfgnnkddaaGreatThMesg
import Derived.Test.YtploijfgnnkddaaGreatThMesg2
import Derived.Test.YtploijfgnnkddaaGreatThMesg3
import Derived.Test.YtploijfgnnkddaaGreatThMesg4
import Derived.Test.YtploijfgnnkddaaGreatThMesg5
import Derived.Test.YtploijfgnnkddaaGreatThMesg6
import Derived.Test.YtploijfgnnkddaaGreatThMsg
import Derived.Test.YtploijfgnnkddaaGreatThMesg7
import Derived.Test.YtploijfgnnkddaaGreatThMesg8
import Derived.Test.YtploijfgnnkddaaGreatThMesgS
import Derived.Test.YtploijfgnnkddaaGreatGpCrc
import Derived.Test.YtploijfgnnkddaaGreatThCrc
import Derived.Test.YtploijfgnnkddaaGreatThFram
import Derived.Test.YtploijfgnnkddaaGreatThPack1
import Derived.Test.YtploijfgnnkddaaGreatThMesg9
import Derived.Test.YtploijfgnnkddaaGreatThMesg10
/- Loops that write, or read, a row one behind the other. -/
namespace Go.Gp
open Go
theorem Q2 {i : Nat} (h : i < 1000000000000) : w64 ((i : Int) + 1) = ((i + 1 : Nat) : Int) := by rw [T9 (by omega)]; simp
theorem A1P {i : Nat} (h : i < 1000000000000) : w64 (((i + 1 : Nat) : Int) - 1) = (i : Int) := by rw [T9 (by omega)]; omega
theorem A3G {α β : Type} {f : (List UInt8 × Int → Option β) → List UInt8 × Int → Option β} {xs : List α} {w : α → List UInt8} {g : List UInt8 → Option β} {B lim : Nat}
    (step : ∀ ag (i : Nat) (h : i < xs.length) (c : List UInt8), c.length ≤ lim → f ag (c, (i : Int)) = ag (c ++ w xs[i], ((i + 1 : Nat) : Int)))
    (fin : ∀ ag (c : List UInt8), c.length ≤ lim → f ag (c, (xs.length : Int)) = g c) (hw : ∀ x ∈ xs, (w x).length ≤ B) :
    ∀ (n i K : Nat) (c : List UInt8), i + n = xs.length → n < K → c.length + n * B ≤ lim → S4 f K (c, (i : Int)) = g (c ++ ((xs.drop i).map w).flatten) := by
  intro n
  induction n with
  | zero =>
    intro i K c hi hK hc; obtain ⟨k, rfl⟩ : ∃ k, K = k + 1 := ⟨K - 1, by omega⟩; rw [X5, show i = xs.length by omega, fin _ _ (by omega), List.drop_length]; simp
  | succ n ih =>
    intro i K c hi hK hc; obtain ⟨k, rfl⟩ : ∃ k, K = k + 1 := ⟨K - 1, by omega⟩; have h : i < xs.length := by omega
    have hx := hw _ (List.getElem_mem h); rw [Nat.succ_mul] at hc; rw [X5, step _ _ h _ (by omega), ih (i + 1) k _ (by omega) (by omega) (by rw [List.length_append]; omega), List.drop_eq_getElem_cons h]; simp only [List.map_cons, List.flatten_cons, List.append_assoc]
theorem A7C {α : Type} {w : α → List UInt8} {B : Nat} : ∀ {xs : List α}, (∀ x ∈ xs, (w x).length ≤ B) → ((xs.map w).flatten).length ≤ xs.length * B
  | [], _ => by simp
  | x :: xs, h => by
    have h1 := h x (by simp); have h2 := A7C (xs := xs) (fun y hy => h y (List.mem_cons_of_mem _ hy)); simp only [List.map_cons, List.flatten_cons, List.length_append, List.length_cons, Nat.succ_mul]; omega
def V4 (x : List UInt8) : List UInt8 := enc x.length ++ x
def Z9 (n : Int) : List UInt8 := enc (I8 n)
def Z3 {α : Type} (w : α → List UInt8) (xs : List α) : List UInt8 := enc xs.length ++ (xs.map w).flatten
abbrev Rdr (α : Type) := List UInt8 → Bool → α × List UInt8 × Bool
def readN {α : Type} (rd : Rdr α) : Nat → List UInt8 → Bool → List α × List UInt8 × Bool
  | 0, b, bad => ([], b, bad)
  | k + 1, b, bad => ((rd b bad).1 :: (readN rd k (rd b bad).2.1 (rd b bad).2.2).1, (readN rd k (rd b bad).2.1 (rd b bad).2.2).2)
theorem A0S {α : Type} (rd : Rdr α) (k : Nat) (b : List UInt8) (bad : Bool) : readN rd (k + 1) b bad = ((rd b bad).1 :: (readN rd k (rd b bad).2.1 (rd b bad).2.2).1, (readN rd k (rd b bad).2.1 (rd b bad).2.2).2) := rfl
structure Shr {α : Type} (rd : Rdr α) : Prop where
  le : ∀ b bad, (rd b bad).2.1.length ≤ b.length
theorem A1l {α : Type} {rd : Rdr α} (h : Shr rd) : ∀ (k : Nat) (b : List UInt8) (bad : Bool), (readN rd k b bad).1.length = k ∧ (readN rd k b bad).2.1.length ≤ b.length
  | 0, b, bad => ⟨rfl, Nat.le_refl _⟩
  | k + 1, b, bad => by
    obtain ⟨h1, h2⟩ := A1l h k (rd b bad).2.1 (rd b bad).2.2; have h3 := h.le b bad; rw [A0S]; exact ⟨by simp [h1], by simp only; omega⟩
theorem A3e {α β σ : Type} {f : (σ → Option β) → σ → Option β} {rd : Rdr α} (S : Nat → List UInt8 → Bool → List α → σ) {g : List UInt8 → Bool → List α → Option β} {k lim : Nat} (hr : Shr rd)
    (step : ∀ ag (i : Nat) (b : List UInt8) bad (out : List α), i < k → b.length ≤ lim → out.length = i → f ag (S i b bad out) = ag (S (i + 1) (rd b bad).2.1 (rd b bad).2.2 (out ++ [(rd b bad).1])))
    (fin : ∀ ag (b : List UInt8) bad (out : List α), b.length ≤ lim → out.length = k → f ag (S k b bad out) = g b bad out) :
    ∀ (n i K : Nat) (b : List UInt8) (bad : Bool) (out : List α), i + n = k → n < K → b.length ≤ lim → out.length = i → S4 f K (S i b bad out) = g (readN rd n b bad).2.1 (readN rd n b bad).2.2 (out ++ (readN rd n b bad).1) := by
  intro n
  induction n with
  | zero =>
    intro i K b bad out hi hK hb ho; obtain ⟨q, rfl⟩ : ∃ q, K = q + 1 := ⟨K - 1, by omega⟩; rw [X5, show i = k by omega, fin _ _ _ _ hb (by omega)]; simp [readN]
  | succ n ih =>
    intro i K b bad out hi hK hb ho; obtain ⟨q, rfl⟩ : ∃ q, K = q + 1 := ⟨K - 1, by omega⟩; have := hr.le b bad; rw [X5, step _ _ _ _ _ (by omega) hb ho, ih (i + 1) q _ _ _ (by omega) (by omega) (by omega) (by simp [ho]), A0S]; simp
def A1Y {α : Type} (c : List α → α → Bool) : List α → List α → Bool
  | _, [] => true
  | out, x :: xs => c out x && A1Y c (out ++ [x]) xs
theorem A3o {α β σ : Type} {f : (σ → Option β) → σ → Option β} {rd : Rdr α} {c : List α → α → Bool} (S : Nat → Bool → List UInt8 → Bool → List α → σ) {g : Bool → List UInt8 → Bool → List α → Option β} {k lim : Nat} (hr : Shr rd)
    (step : ∀ ag (n : Nat) ok (b : List UInt8) bad (out : List α), out.length + (n + 1) = k → b.length ≤ lim → f ag (S (n + 1) ok b bad out) = ag (S n (ok && c out (rd b bad).1) (rd b bad).2.1 (rd b bad).2.2 (out ++ [(rd b bad).1])))
    (fin : ∀ ag ok (b : List UInt8) bad (out : List α), b.length ≤ lim → out.length = k → f ag (S 0 ok b bad out) = g ok b bad out) :
    ∀ (n K : Nat) (ok : Bool) (b : List UInt8) (bad : Bool) (out : List α), out.length + n = k → n < K → b.length ≤ lim → S4 f K (S n ok b bad out) = g (ok && A1Y c out (readN rd n b bad).1) (readN rd n b bad).2.1 (readN rd n b bad).2.2 (out ++ (readN rd n b bad).1) := by
  intro n
  induction n with
  | zero =>
    intro K ok b bad out ho hK hb; obtain ⟨q, rfl⟩ : ∃ q, K = q + 1 := ⟨K - 1, by omega⟩; rw [X5, fin _ _ _ _ _ hb (by omega)]; simp [readN, A1Y]
  | succ n ih =>
    intro K ok b bad out ho hK hb; obtain ⟨q, rfl⟩ : ∃ q, K = q + 1 := ⟨K - 1, by omega⟩; have := hr.le b bad; rw [X5, step _ _ _ _ _ _ ho hb, ih q _ _ _ _ (by simp; omega) (by omega) (by omega), A0S]; simp [A1Y, Bool.and_assoc]
def A2A {α : Type} (rd rd1 : Rdr α) : Prop := ∀ b bad B Bad, RR b bad B Bad → (rd b bad).1 = (rd1 B Bad).1 ∧ RR (rd b bad).2.1 (rd b bad).2.2 (rd1 B Bad).2.1 (rd1 B Bad).2.2
theorem A2A.readN {α : Type} {rd rd1 : Rdr α} (h : A2A rd rd1) (k : Nat) : A2A (readN rd k) (readN rd1 k) := by
  induction k with
  | zero => intro b bad B Bad hr; exact ⟨rfl, hr⟩
  | succ k ih =>
    intro b bad B Bad hr; obtain ⟨h1, h2⟩ := h b bad B Bad hr; obtain ⟨h3, h4⟩ := ih _ _ _ _ h2; rw [A0S, A0S]; exact ⟨by simp only; rw [h1, h3], h4⟩
theorem A2I (top : Int) : A2A (H6 top) (O5 top) := fun _ _ _ _ h => h.num top
theorem A3A (top : Int) : A2A (J0 top) (S3 top) := fun _ _ _ _ h => h.bytes top
theorem A2B (top : Int) : Shr (H6 top) := ⟨fun b bad => A0K top b bad⟩
theorem A1G (top : Int) : Shr (O5 top) := ⟨fun b bad => A0b top b bad⟩
theorem A2c (top : Int) : Shr (J0 top) := ⟨fun b bad => (A2f top b bad).1⟩
theorem A1S (top : Int) : Shr (S3 top) := ⟨fun b bad => (A1i top b bad).1⟩
def rd2 {α β γ : Type} (f : α → β → γ) (r : Rdr α) (s : Rdr β) : Rdr γ := fun b bad => (f (r b bad).1 (s (r b bad).2.1 (r b bad).2.2).1, (s (r b bad).2.1 (r b bad).2.2).2)
theorem A2H {α β γ : Type} (f : α → β → γ) {r r1 : Rdr α} {s s1 : Rdr β} (h : A2A r r1) (k : A2A s s1) : A2A (rd2 f r s) (rd2 f r1 s1) := fun b bad B Bad hr => by
  obtain ⟨h1, h2⟩ := h b bad B Bad hr; obtain ⟨h3, h4⟩ := k _ _ _ _ h2; exact ⟨by unfold rd2; simp only; rw [h1, h3], h4⟩
theorem A1m {α β γ : Type} (f : α → β → γ) {r : Rdr α} {s : Rdr β} (h : Shr r) (k : Shr s) : Shr (rd2 f r s) := ⟨fun _ _ => Nat.le_trans (k.le _ _) (h.le _ _)⟩
def Y6 {α : Type} (n : Rdr Int) (rd : Rdr α) : Rdr (List α) := fun b bad => readN rd (n b bad).1.toNat (n b bad).2.1 (n b bad).2.2
theorem A5C {α : Type} {n n1 : Rdr Int} {rd rd1 : Rdr α} (h : A2A n n1) (k : A2A rd rd1) : A2A (Y6 n rd) (Y6 n1 rd1) := fun b bad B Bad hr => by
  obtain ⟨h1, h2⟩ := h b bad B Bad hr; unfold Y6; rw [← h1]; exact k.readN _ _ _ _ _ h2
theorem A5U {α : Type} {n : Rdr Int} {rd : Rdr α} (h : Shr n) (k : Shr rd) : Shr (Y6 n rd) := ⟨fun b bad => Nat.le_trans (A1l k _ _ _).2 (h.le b bad)⟩
structure WR {α : Type} (rd : Rdr α) (w : α → List UInt8) (P : α → Prop) : Prop where
  ok : ∀ {b bad}, (rd b bad).2.2 = false → bad = false ∧ P (rd b bad).1 ∧ b = w (rd b bad).1 ++ (rd b bad).2.1
  enc : ∀ {x} (rest : List UInt8), P x → rd (w x ++ rest) false = (x, rest, false)
theorem A2F {top : Int} (h : 0 ≤ top ∧ top ≤ 4611686018427387904) : WR (H6 top) Z9 (fun x => 0 ≤ x ∧ x ≤ top) where
  ok := fun {b bad} hb => by
    obtain ⟨h1, n, h2, h3, h4⟩ := A4e hb; have h5 : I8 top = top.toNat := by unfold I8; omega
    refine ⟨h1, by rw [h2]; omega, ?_⟩; unfold Z9; rw [h2, A2k n (by omega)]; exact h4
  enc := fun {x} rest hx => by
    have h5 : I8 x ≤ I8 top := by unfold I8; omega
    have h6 : ((I8 x : Nat) : Int) = x := by unfold I8; omega
    unfold Z9; rw [A2S h5, h6]
theorem A2v {top : Int} : WR (J0 top) V4 (fun x => x.length ≤ I8 top) where
  ok := fun {b bad} hb => by
    obtain ⟨h1, h2, h3⟩ := A3R hb; refine ⟨h1, h2, ?_⟩; unfold V4; rw [List.append_assoc]; exact h3
  enc := fun {x} rest hx => by
    unfold V4; rw [List.append_assoc, A3q hx]
theorem A2E {α β γ : Type} {f : α → β → γ} {r : Rdr α} {s : Rdr β} {w : α → List UInt8} {v : β → List UInt8} {P : α → Prop} {Q : β → Prop} (u : γ → List UInt8) (S : γ → Prop) (h : WR r w P) (k : WR s v Q)
    (hu : ∀ x y, P x → Q y → u (f x y) = w x ++ v y) (hS : ∀ x y, P x → Q y → S (f x y)) (hf : ∀ z, S z → ∃ x y, z = f x y ∧ P x ∧ Q y) : WR (rd2 f r s) u S where
  ok := fun {b bad} hb => by
    obtain ⟨h1, h2, h3⟩ := k.ok hb; obtain ⟨g1, g2, g3⟩ := h.ok h1; refine ⟨g1, hS _ _ g2 h2, ?_⟩; show b = u (f _ _) ++ _; rw [hu _ _ g2 h2, List.append_assoc]; exact g3.trans (congrArg _ h3)
  enc := fun {z} rest hz => by
    obtain ⟨x, y, rfl, hx, hy⟩ := hf z hz; rw [hu _ _ hx hy, List.append_assoc]; unfold rd2; rw [h.enc _ hx]; dsimp only; rw [k.enc _ hy]
theorem A7n {α : Type} {rd : Rdr α} {w : α → List UInt8} {P : α → Prop} (h : WR rd w P) : ∀ (k : Nat) (b : List UInt8) (bad : Bool), (readN rd k b bad).2.2 = false → bad = false ∧ (∀ x ∈ (readN rd k b bad).1, P x) ∧ b = ((readN rd k b bad).1.map w).flatten ++ (readN rd k b bad).2.1
  | 0, b, bad, hb => ⟨hb, by simp [readN], by simp [readN]⟩
  | k + 1, b, bad, hb => by
    rw [A0S] at hb ⊢; obtain ⟨h1, h2, h3⟩ := A7n h k _ _ hb; obtain ⟨g1, g2, g3⟩ := h.ok h1; refine ⟨g1, fun x hx => ?_, ?_⟩
    · simp only [List.mem_cons] at hx
      rcases hx with rfl | hx
      · exact g2
      · exact h2 x hx
    · simp only [List.map_cons, List.flatten_cons, List.append_assoc]; rw [← h3]; exact g3
theorem A6y {α : Type} {rd : Rdr α} {w : α → List UInt8} {P : α → Prop} (h : WR rd w P) : ∀ {xs : List α}, (∀ x ∈ xs, P x) → ∀ rest : List UInt8, readN rd xs.length ((xs.map w).flatten ++ rest) false = (xs, rest, false)
  | [], _, _ => rfl
  | x :: xs, hx, rest => by
    have h1 := h.enc ((xs.map w).flatten ++ rest) (hx x (by simp)); have h2 := A6y h (xs := xs) (fun y hy => hx y (List.mem_cons_of_mem _ hy)) rest; rw [List.length_cons, A0S]; simp only [List.map_cons, List.flatten_cons, List.append_assoc]; rw [h1]; dsimp only; rw [h2]
theorem A4F {α : Type} {rd : Rdr α} {w : α → List UInt8} {P : α → Prop} {top : Int} (ht : 0 ≤ top ∧ top ≤ 4611686018427387904) (hs : Shr rd) (h : WR rd w P) : WR (Y6 (H6 top) rd) (Z3 w) (fun xs => (xs.length : Int) ≤ top ∧ ∀ x ∈ xs, P x) where
  ok := fun {b bad} hb => by
    unfold Y6 at hb ⊢; obtain ⟨h1, h2, h3⟩ := A7n h _ _ _ hb; obtain ⟨g1, g2, g3⟩ := (A2F ht).ok h1; have hl := (A1l hs (H6 top b bad).1.toNat (H6 top b bad).2.1 (H6 top b bad).2.2).1; refine ⟨g1, ⟨by rw [hl]; omega, h2⟩, ?_⟩; unfold Z3; have he : enc (readN rd (H6 top b bad).1.toNat (H6 top b bad).2.1 (H6 top b bad).2.2).1.length = Z9 (H6 top b bad).1 := by
      unfold Z9; rw [hl]
      congr 1
      unfold I8; omega
    rw [he, List.append_assoc, ← h3]; exact g3
  enc := fun {xs} rest hx => by
    have e : enc xs.length = Z9 (xs.length : Int) := by unfold Z9 I8; congr 1; omega
    unfold Y6 Z3; rw [e, List.append_assoc, (A2F ht).enc _ (show 0 ≤ (xs.length : Int) ∧ (xs.length : Int) ≤ top by omega)]; dsimp only; rw [Int.toNat_natCast, A6y h hx.2]
end Go.Gp
