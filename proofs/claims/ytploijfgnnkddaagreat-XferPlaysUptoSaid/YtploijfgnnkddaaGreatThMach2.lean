/- What the statements say, of the plain functions. -/
import Derived.Test.YtploijfgnnkddaaGreatDefs
import Derived.Test.YtploijfgnnkddaaGreatLe
import Derived.Test.YtploijfgnnkddaaGreatThInts
import Derived.Test.YtploijfgnnkddaaGreatThPack
import Derived.Test.YtploijfgnnkddaaGreatThMesg
import Derived.Test.YtploijfgnnkddaaGreatThMesg2
import Derived.Test.YtploijfgnnkddaaGreatThMesg3
import Derived.Test.YtploijfgnnkddaaGreatThMesg4
import Derived.Test.YtploijfgnnkddaaGreatThMesg5
import Derived.Test.YtploijfgnnkddaaGreatThMesg6
import Derived.Test.YtploijfgnnkddaaGreatThMsg
import Derived.Test.YtploijfgnnkddaaGreatThMesg7
import Derived.Test.YtploijfgnnkddaaGreatThMesg8
import Derived.Test.YtploijfgnnkddaaGreatThMesgS
import Derived.Test.YtploijfgnnkddaaGreatGpCrc
import Derived.Test.YtploijfgnnkddaaGreatThCrc
import Derived.Test.YtploijfgnnkddaaGreatThFram
import Derived.Test.YtploijfgnnkddaaGreatThPack1
import Derived.Test.YtploijfgnnkddaaGreatThMesg9
import Derived.Test.YtploijfgnnkddaaGreatThMesg10
import Derived.Test.YtploijfgnnkddaaGreatThRows
import Derived.Test.YtploijfgnnkddaaGreatThMach
/- Machines in bytes: how they are read. -/
namespace Go.Gp
open Go
theorem A6X {a b : UInt8} : a < b ↔ a.toNat < b.toNat := UInt8.lt_iff_toNat_lt
theorem A6Y {a b : UInt8} : a = b ↔ a.toNat = b.toNat := UInt8.toNat_inj.symm
theorem A4p (a b : UInt8) (x y : List UInt8) : slt (a :: x) (b :: y) = true ↔ a < b ∨ (a = b ∧ slt x y = true) := by
  show (decide (a < b) || (a == b && slt x y)) = true ↔ _; simp
theorem A3L : ∀ {p q r : List UInt8}, slt p q = true → slt q r = true → slt p r = true
  | [], [], _, h, _ => by cases h
  | [], _ :: _, [], _, k => by cases k
  | [], _ :: _, _ :: _, _, _ => rfl
  | _ :: _, [], _, h, _ => by cases h
  | _ :: _, _ :: _, [], _, k => by cases k
  | a :: x, b :: y, c :: z, h, k => by
    rw [A4p] at *; rw [A6X, A6Y] at *
    rcases h with h | ⟨h, h'⟩ <;> rcases k with k | ⟨k, k'⟩
    · left; omega
    · left; omega
    · left; omega
    · exact .inr ⟨by omega, A3L h' k'⟩
theorem A8g : ∀ {p q : List UInt8}, slt p q = false → p ≠ q → slt q p = true
  | [], [], _, h => absurd rfl h
  | [], _ :: _, h, _ => by cases h
  | _ :: _, [], _, _ => rfl
  | a :: x, b :: y, h, hne => by
    have h' : ¬(a < b ∨ (a = b ∧ slt x y = true)) := fun g => by
      have := (A4p a b x y).2 g; rw [this] at h; cases h
    rw [A4p]
    by_cases he : a = b
    · subst he
      right
      refine ⟨rfl, A8g ?_ (fun g => hne (by rw [g]))⟩
      cases hs : slt x y with
      | false => rfl
      | true => exact absurd (.inr ⟨rfl, hs⟩) h'
    · left
      have h1 : ¬a < b := fun g => h' (.inl g); rw [A6X] at *; rw [A6Y] at he; omega
theorem A5u : ∀ {p q : List UInt8}, A4a p q > 0 ↔ slt q p = true
  | [], [] => by decide
  | [], _ :: _ => by simp [A4a, slt]
  | _ :: _, [] => by simp [A4a, slt]
  | a :: x, b :: y => by
    rw [A4p]; show (if a < b then (-1 : Int) else if b < a then 1 else A4a x y) > 0 ↔ _; split
    · rename_i h
      rw [A6X] at *; rw [A6Y]
      constructor
      · intro g; omega
      · intro g; rcases g with g | g <;> omega
    · rename_i h
      split
      · rename_i h2; simp [h2]
      · rename_i h2
        have he : b = a := by rw [A6X] at *; rw [A6Y]; omega
        rw [A5u]; simp [he]
theorem A5v {α : Type} {R : α → α → Prop} (ht : ∀ {a b c}, R a b → R b c → R a c) : ∀ {l : List α}, (∀ (i : Nat) (h : i + 1 < l.length), R (l[i]'(by omega)) l[i + 1]) → l.Pairwise R
  | [], _ => .nil
  | [_], _ => by simp
  | a :: b :: l, h => by
    have h1 := A5v (R := R) ht (l := b :: l) (fun i hi => h (i + 1) (by simp at hi ⊢; omega)); have h0 : R a b := h 0 (by simp); refine List.pairwise_cons.2 ⟨fun x hx => ?_, h1⟩
    rcases List.mem_cons.1 hx with rfl | hx
    · exact h0
    · exact ht h0 ((List.pairwise_cons.1 h1).1 x hx)
theorem A7q {α : Type} {R : α → α → Prop} {l : List α} (h : l.Pairwise R) (i : Nat) (hi : i + 1 < l.length) : R (l[i]'(by omega)) l[i + 1] := List.pairwise_iff_getElem.1 h i (i + 1) (by omega) hi (by omega)
theorem A5q {α : Type} {R : α → α → Prop} {Q : α → Prop} {c : List α → α → Bool} (ht : ∀ {a b c}, R a b → R b c → R a c)
    (hc : ∀ out x, c out x = true ↔ Q x ∧ ∀ y, out.getLast? = some y → R y x) : ∀ (xs out : List α), A1Y c out xs = true ↔ (∀ x ∈ xs, Q x) ∧ xs.Pairwise R ∧ ∀ y, out.getLast? = some y → ∀ x ∈ xs, R y x
  | [], out => by simp [A1Y]
  | x :: xs, out => by
    show (c out x && A1Y c (out ++ [x]) xs) = true ↔ _; rw [Bool.and_eq_true, hc, A5q (R := R) (Q := Q) ht hc xs (out ++ [x])]; simp only [List.getLast?_append, List.getLast?_singleton, Option.some_or, Option.some.injEq, List.mem_cons, forall_eq_or_imp, List.pairwise_cons, forall_eq']
    constructor
    · rintro ⟨⟨h1, h2⟩, h3, h4, h5⟩; exact ⟨⟨h1, h3⟩, ⟨h5, h4⟩, fun y hy => ⟨h2 y hy, fun z hz => ht (h2 y hy) (h5 z hz)⟩⟩
    · rintro ⟨⟨h1, h3⟩, ⟨h5, h4⟩, h6⟩; exact ⟨⟨h1, fun y hy => (h6 y hy).1⟩, h3, h4, h5⟩
theorem A6Q {α : Type} [DecidableEq α] : ∀ (xs out : List α), A1Y (fun out x => decide (x ∉ out)) out xs = true ↔ xs.Nodup ∧ ∀ x ∈ xs, x ∉ out
  | [], out => by simp [A1Y]
  | x :: xs, out => by
    show (decide (x ∉ out) && A1Y (fun out x => decide (x ∉ out)) (out ++ [x]) xs) = true ↔ _; rw [Bool.and_eq_true, decide_eq_true_eq, A6Q xs (out ++ [x])]; rw [List.nodup_cons]
    constructor
    · rintro ⟨h1, h2, h3⟩; refine ⟨⟨fun hx => h3 x hx (by simp), h2⟩, fun y hy => ?_⟩
      rcases List.mem_cons.1 hy with rfl | hy
      · exact h1
      · exact fun g => h3 y hy (by simp [g])
    · rintro ⟨⟨h1, h2⟩, h3⟩; refine ⟨h3 x (by simp), h2, fun y hy g => ?_⟩
      rcases List.mem_append.1 g with g | g
      · exact h3 y (List.mem_cons_of_mem _ hy) g
      · obtain rfl := List.mem_singleton.1 g; exact h1 hy
def A2p : Rdr A7 := rd2 (fun k v => (⟨k, v⟩ : A7)) (J0 8) (J0 16)
def A2D : Rdr A7 := rd2 (fun k v => (⟨k, v⟩ : A7)) (S3 8) (S3 16)
def A3E (s : Int) (p : Int × Int × Int × List UInt8) : B6 := ⟨s, p.1, ⟨p.2.1, p.2.2.2, w64 (p.2.2.1 - 1)⟩⟩
def A2e : Rdr B6 := rd2 A3E (H6 gig) (rd2 Prod.mk (H6 gig) (rd2 Prod.mk (H6 10) (rd2 Prod.mk (H6 1073741825) (J0 16))))
def A0L : Rdr B6 := rd2 A3E (O5 gig) (rd2 Prod.mk (O5 gig) (rd2 Prod.mk (O5 10) (rd2 Prod.mk (O5 1073741825) (S3 16))))
def A5I (r : List UInt8) (p : List (List UInt8) × List Int × List A7) : C0 := ⟨r, p.1, p.2.1, p.2.2⟩
def A5E : Rdr C0 := rd2 A5I (J0 16) (rd2 Prod.mk (Y6 (H6 8) (J0 16)) (rd2 Prod.mk (Y6 (H6 5) (H6 999)) (Y6 (H6 8) A2p)))
def A2K : Rdr C0 := rd2 A5I (S3 16) (rd2 Prod.mk (Y6 (O5 8) (S3 16)) (rd2 Prod.mk (Y6 (O5 5) (O5 999)) (Y6 (O5 8) A2D)))
def A3m : Rdr A5 := rd2 (fun o t => (⟨o, t⟩ : A5)) A5E (Y6 (H6 8) A2e)
def A3Q : Rdr A5 := rd2 (fun o t => (⟨o, t⟩ : A5)) A2K (Y6 (O5 8) A0L)
theorem B0V : A2A A2p A2D := A2H _ (A3A 8) (A3A 16)
theorem B0W : A2A A2e A0L := A2H _ (A2I _) (A2H _ (A2I _) (A2H _ (A2I _) (A2H _ (A2I _) (A3A 16))))
theorem B1M : A2A A5E A2K := A2H _ (A3A 16) (A2H _ (A5C (A2I _) (A3A 16)) (A2H _ (A5C (A2I _) (A2I _)) (A5C (A2I _) B0V)))
theorem B2q : A2A A3m A3Q := A2H _ B1M (A5C (A2I _) B0W)
theorem A4q : Shr A2p := A1m _ (A2c 8) (A2c 16)
theorem A6w : Shr A2D := A1m _ (A1S 8) (A1S 16)
theorem A5k : Shr A2e := A1m _ (A2B _) (A1m _ (A2B _) (A1m _ (A2B _) (A1m _ (A2B _) (A2c 16))))
theorem A9n : Shr A0L := A1m _ (A1G _) (A1m _ (A1G _) (A1m _ (A1G _) (A1m _ (A1G _) (A1S 16))))
theorem B0a : Shr A2K := A1m _ (A1S 16) (A1m _ (A5U (A1G _) (A1S 16)) (A1m _ (A5U (A1G _) (A1G _)) (A5U (A1G _) A6w)))
def A3J (p : A7) : Prop := p.Key.length ≤ 8 ∧ p.Val.length ≤ 16
def A4n (l : B6) : Prop := (0 ≤ l.Sess ∧ l.Sess ≤ gig) ∧ (0 ≤ l.Seq ∧ l.Seq ≤ gig) ∧ (0 ≤ l.Result.Err ∧ l.Result.Err ≤ 10) ∧ (-1 ≤ l.Result.N ∧ l.Result.N ≤ 1073741824) ∧ l.Result.Val.length ≤ 16
def A7g (o : C0) : Prop := o.Reg.length ≤ 16 ∧ ((o.Queue.length : Int) ≤ 8 ∧ ∀ x ∈ o.Queue, x.length ≤ 16) ∧ ((o.Lock.length : Int) ≤ 5 ∧ ∀ x ∈ o.Lock, 0 ≤ x ∧ x ≤ 999) ∧ ((o.Map.length : Int) ≤ 8 ∧ ∀ x ∈ o.Map, A3J x)
def A5x (m : A5) : Prop := A7g m.Objects ∧ ((m.Table.length : Int) ≤ 8 ∧ ∀ x ∈ m.Table, A4n x)
theorem h8 : I8 8 = 8 := by decide
theorem h16 : I8 16 = 16 := by decide
theorem B0K : WR A2p A1E A3J := A2E A1E A3J A2v A2v (fun _ _ _ _ => rfl) (fun x y hx hy => ⟨by rw [h8] at hx; exact hx, by rw [h16] at hy; exact hy⟩) (fun z hz => ⟨z.Key, z.Val, rfl, by rw [h8]; exact hz.1, by rw [h16]; exact hz.2⟩)
theorem B0L : WR A2e A2a A4n := by
  have g : (0 : Int) ≤ gig ∧ gig ≤ 4611686018427387904 := by decide
  have w1 := A2E (f := Prod.mk) (fun p : Int × List UInt8 => Z9 p.1 ++ V4 p.2) (fun p => (0 ≤ p.1 ∧ p.1 ≤ 1073741825) ∧ p.2.length ≤ 16) (A2F (top := 1073741825) (by decide)) (A2v (top := 16)) (fun _ _ _ _ => rfl) (fun x y hx hy => ⟨hx, by rw [h16] at hy; exact hy⟩) (fun z hz => ⟨z.1, z.2, rfl, hz.1, by rw [h16]; exact hz.2⟩); have w2 := A2E (f := Prod.mk) (fun p : Int × Int × List UInt8 => Z9 p.1 ++ (Z9 p.2.1 ++ V4 p.2.2)) (fun p => (0 ≤ p.1 ∧ p.1 ≤ 10) ∧ (0 ≤ p.2.1 ∧ p.2.1 ≤ 1073741825) ∧ p.2.2.length ≤ 16) (A2F (top := 10) (by decide)) w1 (fun _ _ _ _ => rfl) (fun x y hx hy => ⟨hx, hy⟩) (fun z hz => ⟨z.1, z.2, rfl, hz.1, hz.2⟩); have w3 := A2E (f := Prod.mk) (fun p : Int × Int × Int × List UInt8 => Z9 p.1 ++ (Z9 p.2.1 ++ (Z9 p.2.2.1 ++ V4 p.2.2.2))) (fun p => (0 ≤ p.1 ∧ p.1 ≤ gig) ∧ (0 ≤ p.2.1 ∧ p.2.1 ≤ 10) ∧ (0 ≤ p.2.2.1 ∧ p.2.2.1 ≤ 1073741825) ∧ p.2.2.2.length ≤ 16) (A2F g) w2 (fun _ _ _ _ => rfl) (fun x y hx hy => ⟨hx, hy⟩) (fun z hz => ⟨z.1, z.2, rfl, hz.1, hz.2⟩); refine A2E A2a A4n (A2F g) w3 (fun x y hx hy => ?_) (fun x y hx hy => ?_) (fun z hz => ?_)
  · obtain ⟨_, _, h3, _⟩ := hy; have e : w64 (w64 (y.2.2.1 - 1) + 1) = y.2.2.1 := by rw [T9 (n := y.2.2.1 - 1) (by omega), T9 (by omega)]; omega
    unfold A2a A3E; dsimp only; rw [e]
  · obtain ⟨h1, h2, h3, h4⟩ := hy; unfold A4n A3E; dsimp only; rw [T9 (n := y.2.2.1 - 1) (by omega)]; exact ⟨hx, h1, h2, by omega, h4⟩
  · obtain ⟨h1, h2, h3, h4, h5⟩ := hz; refine ⟨z.Sess, (z.Seq, z.Result.Err, z.Result.N + 1, z.Result.Val), ?_, h1, h2, h3, by simp only; omega, h5⟩; unfold A3E; dsimp only; rw [show z.Result.N + 1 - 1 = z.Result.N by omega, T9 (by omega)]
def B0o (o : C0) : List UInt8 := V4 o.Reg ++ (Z3 V4 o.Queue ++ (Z3 Z9 o.Lock ++ Z3 A1E o.Map))
theorem B1y : WR A5E B0o A7g := by
  have r1 := A4F (top := 8) (by decide) A4q B0K; have r2 := A4F (top := 5) (by decide) (A2B 999) (A2F (top := 999) (by decide)); have r3 := A4F (top := 8) (by decide) (A2c 16) (A2v (top := 16)); have w1 := A2E (f := Prod.mk) (fun p : List Int × List A7 => Z3 Z9 p.1 ++ Z3 A1E p.2) (fun p => ((p.1.length : Int) ≤ 5 ∧ ∀ x ∈ p.1, 0 ≤ x ∧ x ≤ 999) ∧ ((p.2.length : Int) ≤ 8 ∧ ∀ x ∈ p.2, A3J x)) r2 r1 (fun _ _ _ _ => rfl) (fun x y hx hy => ⟨hx, hy⟩) (fun z hz => ⟨z.1, z.2, rfl, hz.1, hz.2⟩); have w2 := A2E (f := Prod.mk) (fun p : List (List UInt8) × List Int × List A7 => Z3 V4 p.1 ++ (Z3 Z9 p.2.1 ++ Z3 A1E p.2.2)) (fun p => ((p.1.length : Int) ≤ 8 ∧ ∀ x ∈ p.1, x.length ≤ 16) ∧ ((p.2.1.length : Int) ≤ 5 ∧ ∀ x ∈ p.2.1, 0 ≤ x ∧ x ≤ 999) ∧ ((p.2.2.length : Int) ≤ 8 ∧ ∀ x ∈ p.2.2, A3J x)) r3 w1 (fun _ _ _ _ => rfl) (fun x y hx hy => ⟨by rw [h16] at hx; exact hx, hy⟩) (fun z hz => ⟨z.1, z.2, rfl, by rw [h16]; exact hz.1, hz.2⟩); exact A2E B0o A7g (A2v (top := 16)) w2 (fun _ _ _ _ => rfl) (fun x y hx hy => ⟨by rw [h16] at hx; exact hx, hy⟩) (fun z hz => ⟨z.Reg, (z.Queue, z.Lock, z.Map), rfl, by rw [h16]; exact hz.1, hz.2⟩)
theorem B0A : WR A3m A0Y A5x := A2E A0Y A5x B1y (A4F (top := 8) (by decide) A5k B0L) (fun o t _ _ => by unfold A0Y B0o; simp only [List.append_assoc]) (fun _ _ hx hy => ⟨hx, hy⟩) (fun z hz => ⟨z.Objects, z.Table, rfl, hz.1, hz.2⟩)
def A1g (m : A5) : Prop := m.Objects.Lock.Nodup ∧ (∀ l ∈ m.Table, 1 ≤ l.Sess ∧ 1 ≤ l.Seq) ∧ m.Objects.Map.Pairwise (fun a b => slt a.Key b.Key = true) ∧ m.Table.Pairwise (fun a b => a.Sess < b.Sess)
instance (m : A5) : Decidable (A1g m) := by unfold A1g; infer_instance
def A0r : A5 := ⟨(⟨([] : List UInt8), ([] : List (List UInt8)), ([] : List Int), ([] : List A7)⟩ : C0), ([] : List B6)⟩
def A1j (b : List UInt8) : A5 × Bool := if (A3m b false).2.2 = false ∧ (A3m b false).2.1 = [] ∧ A1g (A3m b false).1 then ((A3m b false).1, true) else (A0r, false)
theorem A8X {m : A5} (h : A5x m) (hr : A1g m) : A1j (A0Y m) = (m, true) := by
  have e := B0A.enc [] h; rw [List.append_nil] at e; unfold A1j; rw [e]; exact if_pos ⟨rfl, rfl, hr⟩
theorem A7G {b : List UInt8} (h : (A1j b).2 = true) : A5x (A1j b).1 ∧ A1g (A1j b).1 ∧ b = A0Y (A1j b).1 := by
  unfold A1j at h ⊢; split
  · rename_i g
    obtain ⟨_, g2, g3⟩ := B0A.ok g.1; rw [g.2.1, List.append_nil] at g3; exact ⟨g2, g.2.2, g3⟩
  · rename_i g; rw [if_neg g] at h; cases h
theorem A4u {m : A5} (h : A5x m) : A4m m := by
  obtain ⟨⟨h1, ⟨h2, h3⟩, ⟨h4, _⟩, h5, h6⟩, h7, h8⟩ := h; refine ⟨by omega, ⟨by omega, fun x hx => ?_⟩, by omega, ⟨by omega, fun x hx => ?_⟩, ⟨by omega, fun x hx => ?_⟩⟩
  · have := h3 x hx; omega
  · obtain ⟨a, b⟩ := h6 x hx; omega
  · obtain ⟨_, _, _, _, a⟩ := h8 x hx; omega
end Go.Gp
