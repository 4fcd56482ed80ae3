/- What the statements say, of the plain functions. -/
import Derived.Test.YtploijfgnnkddaaGreatDefs
import Derived.Test.YtploijfgnnkddaaGreatLe
import Derived.Test.YtploijfgnnkddaaGreatThInts
import Derived.Test.YtploijfgnnkddaaGreatThPack
import Derived.Test.YtploijfgnnkddaaGreatThMesg
import Derived.Test.YtploijfgnnkddaaGreatThMesg2
import Derived.Test.YtploijfgnnkddaaGreatThMesg3
import Derived.Test.YtploijfgnnkddaaGreatThMesg4
import Derived.Test.YtploijfgnnkddaaGreatThMesg5
import Derived.Test.YtploijfgnnkddaaGreatThMesg6
import Derived.Test.YtploijfgnnkddaaGreatThMsg
import Derived.Test.YtploijfgnnkddaaGreatThMesg7
import Derived.Test.YtploijfgnnkddaaGreatThMesg8
import Derived.Test.YtploijfgnnkddaaGreatThMesgS
import Derived.Test.YtploijfgnnkddaaGreatGpCrc
import Derived.Test.YtploijfgnnkddaaGreatThCrc
import Derived.Test.YtploijfgnnkddaaGreatThFram
import Derived.Test.YtploijfgnnkddaaGreatThPack1
import Derived.Test.YtploijfgnnkddaaGreatThMesg9
import Derived.Test.YtploijfgnnkddaaGreatThMesg10
import Derived.Test.YtploijfgnnkddaaGreatThRows
import Derived.Test.YtploijfgnnkddaaGreatThMach
import Derived.Test.YtploijfgnnkddaaGreatThMach2
import Derived.Test.YtploijfgnnkddaaGreatThMach3
/- Machines in bytes: the document's Decode. -/
namespace Go.Gp
open Go
def A5O (out : List Int) (x : Int) : Bool := decide (x ∉ out)
def A5r (out : List A7) (p : A7) : Bool := match out.getLast? with | none => true | some q => slt q.Key p.Key
def A3H (out : List B6) (l : B6) : Bool := decide (1 ≤ l.Sess ∧ 1 ≤ l.Seq) && match out.getLast? with | none => true | some q => decide (q.Sess < l.Sess)
theorem B0x (xs : List Int) : A1Y A5O [] xs = decide xs.Nodup := by
  have h := A6Q xs []; have e : A1Y A5O [] xs = A1Y (fun out x => decide (x ∉ out)) [] xs := rfl; rw [e]
  cases hc : A1Y (fun out x => decide (x ∉ out)) [] xs with
  | true => symm; rw [decide_eq_true_eq]; exact (h.1 hc).1
  | false => symm; rw [decide_eq_false_iff_not]; intro g; rw [h.2 ⟨g, by simp⟩] at hc; cases hc
theorem B1v (xs : List A7) : A1Y A5r [] xs = decide (xs.Pairwise (fun a b => slt a.Key b.Key = true)) := by
  have h := A5q (R := fun a b : A7 => slt a.Key b.Key = true) (Q := fun _ => True) (c := A5r) (fun h k => A3L h k) (fun out x => by
    unfold A5r
    cases out.getLast? with
    | none => simp
    | some q => simp) xs []
  cases hc : A1Y A5r [] xs with
  | true => symm; rw [decide_eq_true_eq]; exact (h.1 hc).2.1
  | false => symm; rw [decide_eq_false_iff_not]; intro g; rw [h.2 ⟨by simp, g, by simp⟩] at hc; cases hc
theorem B1u (xs : List B6) : A1Y A3H [] xs = decide ((∀ l ∈ xs, 1 ≤ l.Sess ∧ 1 ≤ l.Seq) ∧ xs.Pairwise (fun a b => a.Sess < b.Sess)) := by
  have h := A5q (R := fun a b : B6 => a.Sess < b.Sess) (Q := fun l => 1 ≤ l.Sess ∧ 1 ≤ l.Seq) (c := A3H) (fun h k => by omega) (fun out x => by
    unfold A3H
    cases out.getLast? with
    | none => simp
    | some q => simp) xs []
  cases hc : A1Y A3H [] xs with
  | true => symm; rw [decide_eq_true_eq]; exact ⟨(h.1 hc).1, (h.1 hc).2.1⟩
  | false => symm; rw [decide_eq_false_iff_not]; intro g; rw [h.2 ⟨g.1, g.2, by simp⟩] at hc; cases hc
theorem A7x {α : Type} {l : List α} (h : 0 < l.length) : l.getLast? = some (l[l.length - 1]) := by
  rw [List.getLast?_eq_getElem?, List.getElem?_eq_getElem]
theorem A8O {K : Nat} (hK : 150 ≤ K) {b : List UInt8} (hb : b.length ≤ 1000000000) (bad : Bool) :
    A6.f K b bad = some ((A2K b bad).1, decide ((A2K b bad).1.Lock.Nodup) && decide ((A2K b bad).1.Map.Pairwise (fun a b => slt a.Key b.Key = true)), (A2K b bad).2) := by
  have e5 : I8 5 = 5 := by decide
  unfold A6.f; have s1 := (A1i 16 b bad).1; rw [A0h (by omega) (by omega)]; simp only [Option.bind_some]; obtain ⟨p1, hp1⟩ : ∃ p, S3 16 b bad = p := ⟨_, rfl⟩; rw [hp1] at s1 ⊢; have s2 := A0b 8 p1.2.1 p1.2.2; obtain ⟨n2, g2, k2⟩ := A3P 8 p1.2.1 p1.2.2; rw [Y4 (by omega) (by omega)]; simp only [Option.bind_some]; obtain ⟨p2, hp2⟩ : ∃ p, O5 8 p1.2.1 p1.2.2 = p := ⟨_, rfl⟩; rw [hp2] at s2 g2 ⊢; rw [h8] at k2; have l3 := A3o (rd := S3 16) (c := fun _ _ => true) (f := fun again v => A6.B3 K (fun v => A6.J1 K p1 v.1 v.2.1 v.2.2) again v.1 v.2.1 v.2.2.1 v.2.2.2) (fun n _ b bad out => ((n : Int), b, bad, out)) (g := fun _ b bad out => A6.J1 K p1 b bad out) (k := n2) (lim := 1000000000) (A1S 16) (fun ag n ok b bad out ho hb => by
    simp only; unfold A6.B3; rw [if_pos (by omega), A0h (by omega) (by omega)]; simp only [Option.bind_some]; rw [R6 (by simp only [List.length_singleton]; omega)]; simp only [Option.bind_some]; rw [A1P (by omega)]) (fun ag ok b bad out hb ho => by
    simp only; unfold A6.B3; rw [if_neg (by omega)]) n2 K true p2.2.1 p2.2.2 [] (by simp) (by omega) (by omega)
  rw [g2]; refine Eq.trans l3 ?_; have s3 := (A1l (A1S 16) n2 p2.2.1 p2.2.2).2; obtain ⟨p3, hp3⟩ : ∃ p, readN (S3 16) n2 p2.2.1 p2.2.2 = p := ⟨_, rfl⟩; rw [hp3] at s3 ⊢; rw [List.nil_append]; unfold A6.J1; have s4 := A0b 5 p3.2.1 p3.2.2; obtain ⟨n4, g4, k4⟩ := A3P 5 p3.2.1 p3.2.2; rw [Y4 (by omega) (by omega)]; simp only [Option.bind_some]; obtain ⟨p4, hp4⟩ : ∃ p, O5 5 p3.2.1 p3.2.2 = p := ⟨_, rfl⟩; rw [hp4] at s4 g4 ⊢; rw [e5] at k4; have l2 := A3o (rd := O5 999) (c := A5O) (f := fun again v => A6.B2 K (fun v => A6.J2 K p1 p3.1 v.1 v.2.1 v.2.2.1 v.2.2.2) again v.1 v.2.1 v.2.2.1 v.2.2.2.1 v.2.2.2.2) (fun n ok b bad out => (ok, (n : Int), b, bad, out)) (g := fun ok b bad out => A6.J2 K p1 p3.1 ok b bad out) (k := n4) (lim := 1000000000) (A1G 999) (fun ag n ok b bad out ho hb => by
    simp only; unfold A6.B2; rw [if_pos (by omega), Y4 (by omega) (by omega)]; simp only [Option.bind_some]; unfold A6.J5
    cases ok with
    | true =>
      rw [if_pos rfl, A5m (by omega) (by omega)]; simp only [Option.bind_some]; rw [R6 (by simp only [List.length_singleton]; omega)]; simp only [Option.bind_some]; rw [A1P (by omega)]; have : decide (A4M out (O5 999 b bad).1 < 0) = A5O out (O5 999 b bad).1 := by
        unfold A5O
        rcases A3s out (O5 999 b bad).1 with ⟨h1, h2⟩ | ⟨i, h1, _, _, h2, _⟩
        · rw [h1, decide_eq_true h2]; rfl
        · rw [h1, decide_eq_false (by omega), decide_eq_false (by simpa using h2)]
      rw [this]
      rfl
    | false =>
      rw [if_neg (by simp), R6 (by simp only [List.length_singleton]; omega)]; simp only [Option.bind_some]; rw [A1P (by omega)]
      rfl) (fun ag ok b bad out hb ho => by
    simp only; unfold A6.B2; rw [if_neg (by omega)]) n4 K true p4.2.1 p4.2.2 [] (by simp) (by omega) (by omega)
  rw [g4]; refine Eq.trans l2 ?_; have s5 := (A1l (A1G 999) n4 p4.2.1 p4.2.2).2; obtain ⟨p5, hp5⟩ : ∃ p, readN (O5 999) n4 p4.2.1 p4.2.2 = p := ⟨_, rfl⟩; rw [hp5] at s5 ⊢; rw [List.nil_append, B0x, Bool.true_and]; unfold A6.J2; have s6 := A0b 8 p5.2.1 p5.2.2; obtain ⟨n6, g6, k6⟩ := A3P 8 p5.2.1 p5.2.2; rw [Y4 (by omega) (by omega)]; simp only [Option.bind_some]; obtain ⟨p6, hp6⟩ : ∃ p, O5 8 p5.2.1 p5.2.2 = p := ⟨_, rfl⟩; rw [hp6] at s6 g6 ⊢; rw [h8] at k6; have l1 := A3o (rd := A2D) (c := A5r) (f := fun again v => A6.B1 K (fun v => A6.J3 K p1 p3.1 p5.1 v.1 v.2.1 v.2.2.1 v.2.2.2) again v.1 v.2.1 v.2.2.1 v.2.2.2.1 v.2.2.2.2) (fun n ok b bad out => (ok, (n : Int), b, bad, out)) (g := fun ok b bad out => A6.J3 K p1 p3.1 p5.1 ok b bad out) (k := n6) (lim := 1000000000) A6w (fun ag n ok b bad out ho hb => by
    simp only; unfold A6.B1; have := (A1i 8 b bad).1; rw [if_pos (by omega), A0h (by omega) (by omega)]; simp only [Option.bind_some]; rw [A0h (by omega) (by omega)]; simp only [Option.bind_some]; have fin : ∀ q : Bool, A6.J4 K out (S3 8 b bad) (S3 16 (S3 8 b bad).2.1 (S3 8 b bad).2.2) ag (((n + 1 : Nat) : Int)) q = ag (q, (n : Int), (A2D b bad).2.1, (A2D b bad).2.2, out ++ [(A2D b bad).1]) := fun q => by
      unfold A6.J4; rw [R6 (by simp only [List.length_singleton]; omega)]; simp only [Option.bind_some]; rw [A1P (by omega)]
      rfl
    cases ok with
    | true =>
      rw [if_pos rfl]
      by_cases h0 : (out.length : Int) = 0
      · rw [if_pos h0, fin]; obtain rfl := List.eq_nil_of_length_eq_zero (l := out) (by omega)
        rfl
      · rw [if_neg h0]; have hw : w64 ((out.length : Int) - 1) = ((out.length - 1 : Nat) : Int) := by rw [T9 (by omega)]; omega
        rw [hw, O7 (by omega) (by rw [Int.toNat_natCast]; omega)]; simp only [Option.bind_some, Int.toNat_natCast]; rw [fin]; have : A5r out (A2D b bad).1 = slt (out[out.length - 1]'(by omega)).Key (S3 8 b bad).1 := by
          unfold A5r; rw [A7x (by omega)]
          rfl
        rw [this]
        rfl
    | false =>
      rw [if_neg (by simp), fin]
      rfl) (fun ag ok b bad out hb ho => by
    simp only; unfold A6.B1; rw [if_neg (by omega)]) n6 K (decide (p5.1.Nodup)) p6.2.1 p6.2.2 [] (by simp) (by omega) (by omega)
  rw [g6]; refine Eq.trans l1 ?_; rw [List.nil_append, B1v]; unfold A6.J3 A2K rd2 A5I Y6; dsimp only; rw [hp1, hp2, g2, Int.toNat_natCast, hp3, hp4, g4, Int.toNat_natCast, hp5, hp6, g6, Int.toNat_natCast]
theorem A6W {K : Nat} (hK : 150 ≤ K) {b : List UInt8} (hb : b.length ≤ 1000000000) (bad : Bool) :
    C8.f K b bad = some ((A3Q b bad).1, decide (A1g (A3Q b bad).1) && !(A3Q b bad).2.2, (A3Q b bad).2) := by
  unfold C8.f; have s1 := B0a.le b bad; rw [A8O hK hb]; simp only [Option.bind_some]; obtain ⟨p1, hp1⟩ : ∃ p, A2K b bad = p := ⟨_, rfl⟩; rw [hp1] at s1 ⊢; have s2 := A0b 8 p1.2.1 p1.2.2; obtain ⟨n2, g2, k2⟩ := A3P 8 p1.2.1 p1.2.2; rw [Y4 (by omega) (by omega)]; simp only [Option.bind_some]; obtain ⟨p2, hp2⟩ : ∃ p, O5 8 p1.2.1 p1.2.2 = p := ⟨_, rfl⟩; rw [hp2] at s2 g2 ⊢; rw [h8] at k2; obtain ⟨q1, hq1⟩ : ∃ q : C0 × Bool × List UInt8 × Bool, q = (p1.1, decide (p1.1.Lock.Nodup) && decide (p1.1.Map.Pairwise (fun a b => slt a.Key b.Key = true)), p1.2) := ⟨_, rfl⟩; rw [← hq1]; have hq2 : q1.1 = p1.1 := by rw [hq1]
  have l1 := A3o (rd := A0L) (c := A3H) (f := fun again v => C8.B1 K (fun v => C8.J1 K q1 v.1 v.2.1 v.2.2.1 v.2.2.2) again v.1 v.2.1 v.2.2.1 v.2.2.2.1 v.2.2.2.2) (fun n ok b bad out => (ok, (n : Int), b, bad, out)) (g := fun ok b bad out => C8.J1 K q1 ok b bad out) (k := n2) (lim := 1000000000) A9n (fun ag n ok b bad out ho hb => by
    simp only; unfold C8.B1; rw [if_pos (by omega), show (1073741824 : Int) = gig from rfl]; have t1 := A0b gig b bad; have u1 := A2Z gig b bad; rw [Y4 (by omega) (by omega)]; simp only [Option.bind_some]; obtain ⟨a1, ha1⟩ : ∃ p, O5 gig b bad = p := ⟨_, rfl⟩; rw [ha1] at t1 u1 ⊢; have t2 := A0b gig a1.2.1 a1.2.2; have u2 := A2Z gig a1.2.1 a1.2.2; rw [Y4 (by omega) (by omega)]; simp only [Option.bind_some]; obtain ⟨a2, ha2⟩ : ∃ p, O5 gig a1.2.1 a1.2.2 = p := ⟨_, rfl⟩; rw [ha2] at t2 u2 ⊢; have t3 := A0b 10 a2.2.1 a2.2.2; rw [Y4 (by omega) (by omega)]; simp only [Option.bind_some]; obtain ⟨a3, ha3⟩ : ∃ p, O5 10 a2.2.1 a2.2.2 = p := ⟨_, rfl⟩; rw [ha3] at t3 ⊢; have t4 := A0b 1073741825 a3.2.1 a3.2.2; rw [Y4 (by omega) (by omega)]; simp only [Option.bind_some]; obtain ⟨a4, ha4⟩ : ∃ p, O5 1073741825 a3.2.1 a3.2.2 = p := ⟨_, rfl⟩; rw [ha4] at t4 ⊢; rw [A0h (by omega) (by omega)]; simp only [Option.bind_some]; obtain ⟨a5, ha5⟩ : ∃ p, S3 16 a4.2.1 a4.2.2 = p := ⟨_, rfl⟩; rw [ha5]; have hl : A0L b bad = (⟨a1.1, a2.1, ⟨a3.1, a5.1, w64 (a4.1 - 1)⟩⟩, a5.2) := by
      unfold A0L rd2 A3E; dsimp only; rw [ha1, ha2, ha3, ha4, ha5]
    have hgig : I8 gig = 1073741824 := by decide
    rw [hgig] at u1 u2; have fin : ∀ q : Bool, C8.J2 K out a1 a2 a3 a5 a4 ag (((n + 1 : Nat) : Int)) q = ag (q, (n : Int), (A0L b bad).2.1, (A0L b bad).2.2, out ++ [(A0L b bad).1]) := fun q => by
      unfold C8.J2; rw [R6 (by simp only [List.length_singleton]; omega)]; simp only [Option.bind_some]; rw [A1P (by omega), hl]
    cases ok with
    | true =>
      have hn : X8.f a1.1 a2.1 = some (decide (1 ≤ a1.1 ∧ 1 ≤ a2.1)) := by
        unfold X8.f; have d1 : a1.1 ≤ 1073741824 := by omega
        have d2 : a2.1 ≤ 1073741824 := by omega
        by_cases c1 : 1 ≤ a1.1 <;> by_cases c2 : 1 ≤ a2.1 <;> simp [c1, c2, d1, d2]
      rw [if_pos rfl, hn]; simp only [Option.bind_some]
      by_cases c1 : 1 ≤ a1.1 ∧ 1 ≤ a2.1
      · rw [if_pos (by rw [decide_eq_true_eq]; exact c1)]
        by_cases h0 : (out.length : Int) = 0
        · rw [if_pos h0, fin]; obtain rfl := List.eq_nil_of_length_eq_zero (l := out) (by omega); have : A3H [] (A0L b bad).1 = true := by
            rw [hl]; unfold A3H; simp only [List.getLast?_nil, Bool.and_true, decide_eq_true_eq]; exact c1
          rw [this]
          rfl
        · rw [if_neg h0]; have hw : w64 ((out.length : Int) - 1) = ((out.length - 1 : Nat) : Int) := by rw [T9 (by omega)]; omega
          rw [hw, O7 (by omega) (by rw [Int.toNat_natCast]; omega)]; simp only [Option.bind_some, Int.toNat_natCast]; rw [fin]; have : A3H out (A0L b bad).1 = decide ((out[out.length - 1]'(by omega)).Sess < a1.1) := by
            rw [hl]; unfold A3H; rw [A7x (by omega)]; dsimp only; rw [decide_eq_true c1, Bool.true_and]
          rw [this]
          rfl
      · rw [if_neg (by rw [decide_eq_true_eq]; exact c1), fin]; have : A3H out (A0L b bad).1 = false := by
          rw [hl]; unfold A3H; dsimp only; rw [decide_eq_false c1, Bool.false_and]
        rw [this]
        rfl
    | false =>
      rw [if_neg (by simp), fin]
      rfl) (fun ag ok b bad out hb ho => by
    simp only; unfold C8.B1; rw [if_neg (by omega)]) n2 K q1.2.1 p2.2.1 p2.2.2 [] (by simp) (by omega) (by omega)
  rw [g2, show (decide (p1.1.Lock.Nodup) && decide (p1.1.Map.Pairwise (fun a b => slt a.Key b.Key = true))) = q1.2.1 by rw [hq1]]; refine Eq.trans l1 ?_; rw [List.nil_append, B1u]; have hma : A3Q b bad = (⟨p1.1, (readN A0L n2 p2.2.1 p2.2.2).1⟩, (readN A0L n2 p2.2.1 p2.2.2).2) := by
    unfold A3Q rd2 Y6; dsimp only; rw [hp1, hp2, g2, Int.toNat_natCast]
  rw [hma]; obtain ⟨p3, hp3⟩ : ∃ p, readN A0L n2 p2.2.1 p2.2.2 = p := ⟨_, rfl⟩; rw [hp3, hq2.symm] at *; dsimp only; have hok : q1.2.1 = (decide (q1.1.Lock.Nodup) && decide (q1.1.Map.Pairwise (fun a b => slt a.Key b.Key = true))) := by rw [hq2, hq1]
  unfold C8.J1; have hR : (q1.2.1 && decide ((∀ l ∈ p3.1, 1 ≤ l.Sess ∧ 1 ≤ l.Seq) ∧ p3.1.Pairwise (fun a b => a.Sess < b.Sess))) = decide (A1g ⟨q1.1, p3.1⟩) := by
    rw [hok]; unfold A1g; dsimp only
    by_cases c1 : q1.1.Lock.Nodup <;> by_cases c2 : q1.1.Map.Pairwise (fun a b => slt a.Key b.Key = true) <;> by_cases c3 : (∀ l ∈ p3.1, 1 ≤ l.Sess ∧ 1 ≤ l.Seq) <;> by_cases c4 : p3.1.Pairwise (fun a b => a.Sess < b.Sess) <;> simp only [c1, c2, c3, c4, decide_true, decide_false, Bool.and_true, Bool.and_false, Bool.true_and, Bool.false_and, and_true, and_false, true_and, false_and]
  rw [hR]
  cases hd : decide (A1g ⟨q1.1, p3.1⟩) with
  | true => rw [if_pos rfl]; rfl
  | false => rw [if_neg (by simp)]; rfl
theorem A6g {K : Nat} (hK : 150 ≤ K) {b : List UInt8} (hb : b.length ≤ 1000000000) : S8.f K b = some (A1j b) := by
  unfold S8.f A1j; rw [A6W hK hb]; simp only [Option.bind_some]; obtain ⟨e1, e2, e3⟩ := B2q b false b false ⟨rfl, by simp⟩; rw [e1, e2]; generalize A3Q b false = p at *; generalize A3m b false = q at *; obtain ⟨m, r, bad⟩ := p; obtain ⟨m', r', bad'⟩ := q; dsimp only at *; subst e2; unfold U7.f S8.J1
  cases bad' with
  | true => simp [A0r]
  | false =>
    have e3 : r' = r := by simpa using e3
    subst e3
    by_cases hr : A1g m
    · by_cases h0 : r' = []
      · subst h0; simp [hr]
      · have : ((r'.length : Int) == 0) = false := by
          have : r'.length ≠ 0 := fun g => h0 (List.eq_nil_of_length_eq_zero g); simp only [beq_eq_false_iff_ne]; omega
        simp [hr, h0, A0r]
    · simp [hr, A0r]
end Go.Gp
