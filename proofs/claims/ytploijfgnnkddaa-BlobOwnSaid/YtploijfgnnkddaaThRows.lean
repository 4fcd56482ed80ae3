/- What the statements say, of the plain functions. -/
import Derived.Test.YtploijfgnnkddaaDefs
import Derived.Test.YtploijfgnnkddaaLe
import Derived.Test.YtploijfgnnkddaaThInts
import Derived.Test.YtploijfgnnkddaaThPack
import Derived.Test.YtploijfgnnkddaaThMesg
import Derived.Test.YtploijfgnnkddaaThMesg2
import Derived.Test.YtploijfgnnkddaaThMesg3
import Derived.Test.YtploijfgnnkddaaThMesg4
import Derived.Test.YtploijfgnnkddaaThMesg5
import Derived.Test.YtploijfgnnkddaaThMesg6
import Derived.Test.YtploijfgnnkddaaThMsg
import Derived.Test.YtploijfgnnkddaaThMesg7
import Derived.Test.YtploijfgnnkddaaThMesg8
import Derived.Test.YtploijfgnnkddaaThMesgS
import Derived.Test.YtploijfgnnkddaaGpCrc
import Derived.Test.YtploijfgnnkddaaThCrc
import Derived.Test.YtploijfgnnkddaaThFram
import Derived.Test.YtploijfgnnkddaaThPack1
import Derived.Test.YtploijfgnnkddaaThMesg9
import Derived.Test.YtploijfgnnkddaaThMesg10
/- Loops that write, or read, a row one behind the other. -/
namespace Go.Gp
open Go
theorem w64_succN {i : Nat} (h : i < 1000000000000) : w64 ((i : Int) + 1) = ((i + 1 : Nat) : Int) := by rw [w64_id (by omega)]; simp
theorem w64_predN {i : Nat} (h : i < 1000000000000) : w64 (((i + 1 : Nat) : Int) - 1) = (i : Int) := by rw [w64_id (by omega)]; omega
/-- A loop that writes a row. -/
theorem enc_iter {α β : Type} {f : (List UInt8 × Int → Option β) → List UInt8 × Int → Option β} {xs : List α} {w : α → List UInt8} {g : List UInt8 → Option β} {B lim : Nat}
    (step : ∀ ag (i : Nat) (h : i < xs.length) (c : List UInt8), c.length ≤ lim → f ag (c, (i : Int)) = ag (c ++ w xs[i], ((i + 1 : Nat) : Int)))
    (fin : ∀ ag (c : List UInt8), c.length ≤ lim → f ag (c, (xs.length : Int)) = g c) (hw : ∀ x ∈ xs, (w x).length ≤ B) :
    ∀ (n i K : Nat) (c : List UInt8), i + n = xs.length → n < K → c.length + n * B ≤ lim → iter f K (c, (i : Int)) = g (c ++ ((xs.drop i).map w).flatten) := by
  intro n
  induction n with
  | zero =>
    intro i K c hi hK hc
    obtain ⟨k, rfl⟩ : ∃ k, K = k + 1 := ⟨K - 1, by omega⟩
    rw [iter_succ, show i = xs.length by omega, fin _ _ (by omega), List.drop_length]
    simp
  | succ n ih =>
    intro i K c hi hK hc
    obtain ⟨k, rfl⟩ : ∃ k, K = k + 1 := ⟨K - 1, by omega⟩
    have h : i < xs.length := by omega
    have hx := hw _ (List.getElem_mem h)
    rw [Nat.succ_mul] at hc
    rw [iter_succ, step _ _ h _ (by omega), ih (i + 1) k _ (by omega) (by omega) (by rw [List.length_append]; omega), List.drop_eq_getElem_cons h]
    simp only [List.map_cons, List.flatten_cons, List.append_assoc]
theorem flat_len {α : Type} {w : α → List UInt8} {B : Nat} : ∀ {xs : List α}, (∀ x ∈ xs, (w x).length ≤ B) → ((xs.map w).flatten).length ≤ xs.length * B
  | [], _ => by simp
  | x :: xs, h => by
    have h1 := h x (by simp)
    have h2 := flat_len (xs := xs) (fun y hy => h y (List.mem_cons_of_mem _ hy))
    simp only [List.map_cons, List.flatten_cons, List.length_append, List.length_cons, Nat.succ_mul]
    omega
def bytesW (x : List UInt8) : List UInt8 := enc x.length ++ x
def numW (n : Int) : List UInt8 := enc (held2 n)
/-- A row, ahead of which its length stands. -/
def rowW {α : Type} (w : α → List UInt8) (xs : List α) : List UInt8 := enc xs.length ++ (xs.map w).flatten
/-! ### reading -/
abbrev Rdr (α : Type) := List UInt8 → Bool → α × List UInt8 × Bool
def readN {α : Type} (rd : Rdr α) : Nat → List UInt8 → Bool → List α × List UInt8 × Bool
  | 0, b, bad => ([], b, bad)
  | k + 1, b, bad => ((rd b bad).1 :: (readN rd k (rd b bad).2.1 (rd b bad).2.2).1, (readN rd k (rd b bad).2.1 (rd b bad).2.2).2)
theorem readN_succ {α : Type} (rd : Rdr α) (k : Nat) (b : List UInt8) (bad : Bool) : readN rd (k + 1) b bad = ((rd b bad).1 :: (readN rd k (rd b bad).2.1 (rd b bad).2.2).1, (readN rd k (rd b bad).2.1 (rd b bad).2.2).2) := rfl
structure Shr {α : Type} (rd : Rdr α) : Prop where
  le : ∀ b bad, (rd b bad).2.1.length ≤ b.length
theorem readN_len {α : Type} {rd : Rdr α} (h : Shr rd) : ∀ (k : Nat) (b : List UInt8) (bad : Bool), (readN rd k b bad).1.length = k ∧ (readN rd k b bad).2.1.length ≤ b.length
  | 0, b, bad => ⟨rfl, Nat.le_refl _⟩
  | k + 1, b, bad => by
    obtain ⟨h1, h2⟩ := readN_len h k (rd b bad).2.1 (rd b bad).2.2
    have h3 := h.le b bad
    rw [readN_succ]
    exact ⟨by simp [h1], by simp only; omega⟩
/-- A loop that reads a row. -/
theorem read_iter {α β σ : Type} {f : (σ → Option β) → σ → Option β} {rd : Rdr α} (S : Nat → List UInt8 → Bool → List α → σ) {g : List UInt8 → Bool → List α → Option β} {k lim : Nat} (hr : Shr rd)
    (step : ∀ ag (i : Nat) (b : List UInt8) bad (out : List α), i < k → b.length ≤ lim → out.length = i → f ag (S i b bad out) = ag (S (i + 1) (rd b bad).2.1 (rd b bad).2.2 (out ++ [(rd b bad).1])))
    (fin : ∀ ag (b : List UInt8) bad (out : List α), b.length ≤ lim → out.length = k → f ag (S k b bad out) = g b bad out) :
    ∀ (n i K : Nat) (b : List UInt8) (bad : Bool) (out : List α), i + n = k → n < K → b.length ≤ lim → out.length = i → iter f K (S i b bad out) = g (readN rd n b bad).2.1 (readN rd n b bad).2.2 (out ++ (readN rd n b bad).1) := by
  intro n
  induction n with
  | zero =>
    intro i K b bad out hi hK hb ho
    obtain ⟨q, rfl⟩ : ∃ q, K = q + 1 := ⟨K - 1, by omega⟩
    rw [iter_succ, show i = k by omega, fin _ _ _ _ hb (by omega)]
    simp [readN]
  | succ n ih =>
    intro i K b bad out hi hK hb ho
    obtain ⟨q, rfl⟩ : ∃ q, K = q + 1 := ⟨K - 1, by omega⟩
    have := hr.le b bad
    rw [iter_succ, step _ _ _ _ _ (by omega) hb ho, ih (i + 1) q _ _ _ (by omega) (by omega) (by omega) (by simp [ho]), readN_succ]
    simp
/-- What is held of each against those ahead of it. -/
def chkN {α : Type} (c : List α → α → Bool) : List α → List α → Bool
  | _, [] => true
  | out, x :: xs => c out x && chkN c (out ++ [x]) xs
/-- Two readers that read the same, side by side. -/
def RdRR {α : Type} (rd rd1 : Rdr α) : Prop := ∀ b bad B Bad, RR b bad B Bad → (rd b bad).1 = (rd1 B Bad).1 ∧ RR (rd b bad).2.1 (rd b bad).2.2 (rd1 B Bad).2.1 (rd1 B Bad).2.2
theorem RdRR.readN {α : Type} {rd rd1 : Rdr α} (h : RdRR rd rd1) (k : Nat) : RdRR (readN rd k) (readN rd1 k) := by
  induction k with
  | zero => intro b bad B Bad hr; exact ⟨rfl, hr⟩
  | succ k ih =>
    intro b bad B Bad hr
    obtain ⟨h1, h2⟩ := h b bad B Bad hr
    obtain ⟨h3, h4⟩ := ih _ _ _ _ h2
    rw [readN_succ, readN_succ]
    exact ⟨by simp only; rw [h1, h3], h4⟩
theorem shr_num (top : Int) : Shr (rnum top) := ⟨fun b bad => rnum_le top b bad⟩
theorem shr_bytes (top : Int) : Shr (rbytes top) := ⟨fun b bad => (rbytes_le top b bad).1⟩
/-- Two reads, one behind the other. -/
def rd2 {α β γ : Type} (f : α → β → γ) (r : Rdr α) (s : Rdr β) : Rdr γ := fun b bad => (f (r b bad).1 (s (r b bad).2.1 (r b bad).2.2).1, (s (r b bad).2.1 (r b bad).2.2).2)
theorem shr_rd2 {α β γ : Type} (f : α → β → γ) {r : Rdr α} {s : Rdr β} (h : Shr r) (k : Shr s) : Shr (rd2 f r s) := ⟨fun _ _ => Nat.le_trans (k.le _ _) (h.le _ _)⟩
/-- A row, ahead of which its length stands. -/
def rdRow {α : Type} (n : Rdr Int) (rd : Rdr α) : Rdr (List α) := fun b bad => readN rd (n b bad).1.toNat (n b bad).2.1 (n b bad).2.2
/-! ### there and back -/
/-- A reader reads just what a writer writes. -/
structure WR {α : Type} (rd : Rdr α) (w : α → List UInt8) (P : α → Prop) : Prop where
  ok : ∀ {b bad}, (rd b bad).2.2 = false → bad = false ∧ P (rd b bad).1 ∧ b = w (rd b bad).1 ++ (rd b bad).2.1
  enc : ∀ {x} (rest : List UInt8), P x → rd (w x ++ rest) false = (x, rest, false)
theorem wr_num {top : Int} (h : 0 ≤ top ∧ top ≤ 4611686018427387904) : WR (rnum top) numW (fun x => 0 ≤ x ∧ x ≤ top) where
  ok := fun {b bad} hb => by
    obtain ⟨h1, n, h2, h3, h4⟩ := rnum_ok hb
    have h5 : held2 top = top.toNat := by unfold held2; omega
    refine ⟨h1, by rw [h2]; omega, ?_⟩
    unfold numW
    rw [h2, held2_nat n (by omega)]
    exact h4
  enc := fun {x} rest hx => by
    have h5 : held2 x ≤ held2 top := by unfold held2; omega
    have h6 : ((held2 x : Nat) : Int) = x := by unfold held2; omega
    unfold numW
    rw [rnum_enc h5, h6]
theorem wr_bytes {top : Int} : WR (rbytes top) bytesW (fun x => x.length ≤ held2 top) where
  ok := fun {b bad} hb => by
    obtain ⟨h1, h2, h3⟩ := rbytes_ok hb
    refine ⟨h1, h2, ?_⟩
    unfold bytesW
    rw [List.append_assoc]
    exact h3
  enc := fun {x} rest hx => by
    unfold bytesW
    rw [List.append_assoc, rbytes_enc hx]
theorem wr_rd2 {α β γ : Type} {f : α → β → γ} {r : Rdr α} {s : Rdr β} {w : α → List UInt8} {v : β → List UInt8} {P : α → Prop} {Q : β → Prop} (u : γ → List UInt8) (S : γ → Prop) (h : WR r w P) (k : WR s v Q)
    (hu : ∀ x y, P x → Q y → u (f x y) = w x ++ v y) (hS : ∀ x y, P x → Q y → S (f x y)) (hf : ∀ z, S z → ∃ x y, z = f x y ∧ P x ∧ Q y) : WR (rd2 f r s) u S where
  ok := fun {b bad} hb => by
    obtain ⟨h1, h2, h3⟩ := k.ok hb
    obtain ⟨g1, g2, g3⟩ := h.ok h1
    refine ⟨g1, hS _ _ g2 h2, ?_⟩
    show b = u (f _ _) ++ _
    rw [hu _ _ g2 h2, List.append_assoc]
    exact g3.trans (congrArg _ h3)
  enc := fun {z} rest hz => by
    obtain ⟨x, y, rfl, hx, hy⟩ := hf z hz
    rw [hu _ _ hx hy, List.append_assoc]
    unfold rd2
    rw [h.enc _ hx]
    dsimp only
    rw [k.enc _ hy]
theorem readN_ok {α : Type} {rd : Rdr α} {w : α → List UInt8} {P : α → Prop} (h : WR rd w P) : ∀ (k : Nat) (b : List UInt8) (bad : Bool), (readN rd k b bad).2.2 = false → bad = false ∧ (∀ x ∈ (readN rd k b bad).1, P x) ∧ b = ((readN rd k b bad).1.map w).flatten ++ (readN rd k b bad).2.1
  | 0, b, bad, hb => ⟨hb, by simp [readN], by simp [readN]⟩
  | k + 1, b, bad, hb => by
    rw [readN_succ] at hb ⊢
    obtain ⟨h1, h2, h3⟩ := readN_ok h k _ _ hb
    obtain ⟨g1, g2, g3⟩ := h.ok h1
    refine ⟨g1, fun x hx => ?_, ?_⟩
    · simp only [List.mem_cons] at hx
      rcases hx with rfl | hx
      · exact g2
      · exact h2 x hx
    · simp only [List.map_cons, List.flatten_cons, List.append_assoc]
      rw [← h3]
      exact g3
theorem readN_enc {α : Type} {rd : Rdr α} {w : α → List UInt8} {P : α → Prop} (h : WR rd w P) : ∀ {xs : List α}, (∀ x ∈ xs, P x) → ∀ rest : List UInt8, readN rd xs.length ((xs.map w).flatten ++ rest) false = (xs, rest, false)
  | [], _, _ => rfl
  | x :: xs, hx, rest => by
    have h1 := h.enc ((xs.map w).flatten ++ rest) (hx x (by simp))
    have h2 := readN_enc h (xs := xs) (fun y hy => hx y (List.mem_cons_of_mem _ hy)) rest
    rw [List.length_cons, readN_succ]
    simp only [List.map_cons, List.flatten_cons, List.append_assoc]
    rw [h1]
    dsimp only
    rw [h2]
theorem wr_row {α : Type} {rd : Rdr α} {w : α → List UInt8} {P : α → Prop} {top : Int} (ht : 0 ≤ top ∧ top ≤ 4611686018427387904) (hs : Shr rd) (h : WR rd w P) : WR (rdRow (rnum top) rd) (rowW w) (fun xs => (xs.length : Int) ≤ top ∧ ∀ x ∈ xs, P x) where
  ok := fun {b bad} hb => by
    unfold rdRow at hb ⊢
    obtain ⟨h1, h2, h3⟩ := readN_ok h _ _ _ hb
    obtain ⟨g1, g2, g3⟩ := (wr_num ht).ok h1
    have hl := (readN_len hs (rnum top b bad).1.toNat (rnum top b bad).2.1 (rnum top b bad).2.2).1
    refine ⟨g1, ⟨by rw [hl]; omega, h2⟩, ?_⟩
    unfold rowW
    have he : enc (readN rd (rnum top b bad).1.toNat (rnum top b bad).2.1 (rnum top b bad).2.2).1.length = numW (rnum top b bad).1 := by
      unfold numW
      rw [hl]
      congr 1
      unfold held2; omega
    rw [he, List.append_assoc, ← h3]
    exact g3
  enc := fun {xs} rest hx => by
    have e : enc xs.length = numW (xs.length : Int) := by unfold numW held2; congr 1; omega
    unfold rdRow rowW
    rw [e, List.append_assoc, (wr_num ht).enc _ (show 0 ≤ (xs.length : Int) ∧ (xs.length : Int) ≤ top by omega)]
    dsimp only
    rw [Int.toNat_natCast, readN_enc h hx.2]
end Go.Gp
