/- What the statements say, of the plain functions. -/
import Derived.Test.YtploijfgnnkddaaGreatDefs
import Derived.Test.YtploijfgnnkddaaGreatLe
import Derived.Test.YtploijfgnnkddaaGreatThInts
import Derived.Test.YtploijfgnnkddaaGreatThPack
import Derived.Test.YtploijfgnnkddaaGreatThMesg
import Derived.Test.YtploijfgnnkddaaGreatThMesg2
import Derived.Test.YtploijfgnnkddaaGreatThMesg3
import Derived.Test.YtploijfgnnkddaaGreatThMesg4
import Derived.Test.YtploijfgnnkddaaGreatThMesg5
import Derived.Test.YtploijfgnnkddaaGreatThMesg6
import Derived.Test.YtploijfgnnkddaaGreatThMsg
import Derived.Test.YtploijfgnnkddaaGreatThMesg7
import Derived.Test.YtploijfgnnkddaaGreatThMesg8
import Derived.Test.YtploijfgnnkddaaGreatThMesgS
import Derived.Test.YtploijfgnnkddaaGreatGpCrc
import Derived.Test.YtploijfgnnkddaaGreatThCrc
import Derived.Test.YtploijfgnnkddaaGreatThFram
import Derived.Test.YtploijfgnnkddaaGreatThPack1
import Derived.Test.YtploijfgnnkddaaGreatThMesg9
import Derived.Test.YtploijfgnnkddaaGreatThMesg10
import Derived.Test.YtploijfgnnkddaaGreatThRows
import Derived.Test.YtploijfgnnkddaaGreatThMach
import Derived.Test.YtploijfgnnkddaaGreatThMach2
import Derived.Test.YtploijfgnnkddaaGreatThMach3
import Derived.Test.YtploijfgnnkddaaGreatThMach4
/- States in bytes. -/
namespace Go.Gp
open Go
theorem A9m {K : Nat} (hK : 20 ≤ K) {b : List UInt8} (hb : b.length < K) (hb2 : b.length ≤ 1000000000) : A1V.f K b = some (if 4 ≤ b.length then (b.drop 4, (A0e b).isSome) else ([], false)) := by
  unfold A1V.f
  by_cases h4 : b.length < 4
  · rw [if_pos (by omega), if_neg (by omega)]
  · rw [if_neg (by omega), if_pos (by omega)]; have hcut : cut b 4 (b.length : Int) = some (b.drop 4) := by
      rw [A1f ⟨by omega, by omega, by omega⟩, Int.toNat_natCast, List.take_length]
      rfl
    rw [O7 (xs := b) (i := 0) (by omega) (by simp; omega)]; simp only [Option.bind_some]; rw [O7 (xs := b) (i := 1) (by omega) (by simp; omega)]; simp only [Option.bind_some]; rw [O7 (xs := b) (i := 2) (by omega) (by simp; omega)]; simp only [Option.bind_some]; rw [O7 (xs := b) (i := 3) (by omega) (by simp; omega)]; simp only [Option.bind_some]; rw [hcut]; simp only [Option.bind_some]; rw [B1C hK (by rw [List.length_drop]; omega) (by rw [List.length_drop]; omega)]; simp only [Option.bind_some]; rw [B0M]; have ht : b.take 4 = [b[0], b[1], b[2], b[3]] := B0B (by omega); unfold A0e; rw [ht]
    congr 2
    by_cases h : [b[0], b[1], b[2], b[3]] = le4 (crc (b.drop 4))
    · rw [if_pos ⟨by omega, h⟩]; simpa using h
    · rw [if_neg (fun g => h g.2)]; simpa using h
def stW (s : E5) : List UInt8 := Z9 s.At ++ (V4 (A0Y s.Machine) ++ Z3 A1y s.Rest)
structure A7P (e : B8) : Prop where
  k : e.Cmd.Key.length ≤ 1000
  v : e.Cmd.Val.length ≤ 1000
  o : e.Cmd.Old.length ≤ 1000
structure A3I (s : E5) : Prop where
  m : A4m s.Machine
  r : s.Rest.length ≤ 100
  e : ∀ e ∈ s.Rest, A7P e
theorem A7F {e : B8} (h : A7P e) : (A1y e).length ≤ 3100 := by
  have l4 := A3h [e.Sess, e.Seq, e.Cmd.Kind, e.Cmd.Who]; simp only [List.length_cons, List.length_nil] at l4; have h1 := h.k; have h2 := h.v; have h3 := h.o; have g5 := Z8 (n := e.Cmd.Key.length) (by omega); have g6 := Z8 (n := e.Cmd.Val.length) (by omega); have g7 := Z8 (n := e.Cmd.Old.length) (by omega); unfold A1y A6n; simp only [List.length_append]; omega
theorem B0R {s : E5} (h : A3I s) : (stW s).length ≤ 900000 := by
  have h1 := A3T h.m; have h2 := X6 h1 (by omega); have h3 := A0J (w := A1y) (xs := s.Rest) (B := 3100) (fun x hx => A7F (h.e x hx)) (by have := h.r; omega); have h4 := Y8 s.At; have := h.r; unfold stW; simp only [List.length_append]; omega
theorem A4k {K : Nat} (hK : K = 2000000000) {s : E5} (h : A3I s) : F6.f K s = some (A1K (stW s)) := by
  have put : ∀ (b : List UInt8) (e : B8), b.length ≤ 10000000 → A7P e → Y2.f K b e = some (b ++ A1y e) := fun b e hb he => by
    rw [hK]; exact B1b (by have := he.k; omega) (by have := he.v; omega) (by have := he.o; omega) hb
  have hK2 : 1000000 ≤ K := by rw [hK]; decide
  clear hK; have h1 := A3T h.m; have h2 := X6 h1 (by omega); have h4 := Y8 s.At; have hr := h.r; have hs := B0R h; have he := Z8 (n := s.Rest.length) (by omega); unfold F6.f; rw [A2z (by omega) (by simp)]; simp only [Option.bind_some]; rw [A6f (by omega) h.m]; simp only [Option.bind_some]; rw [A2o (by omega) (by rw [List.nil_append]; omega) (by omega)]; simp only [Option.bind_some]; rw [A2M (by omega) (by simp only [List.length_append, List.length_nil]; omega) _ (by omega)]; simp only [Option.bind_some, List.nil_append]; unfold F6.L1; have := A3G (f := fun again v => F6.B1 K s (fun v => F6.J1 K v) again v.1 v.2) (xs := s.Rest) (w := A1y) (g := fun v => F6.J1 K v) (B := 3100) (lim := 2000000) (fun ag i h' c hc => by
    simp only; unfold F6.B1; rw [if_pos (by omega), O7 (by omega) (by simpa using h')]; simp only [Option.bind_some, Int.toNat_natCast]; rw [put _ _ (by omega) (h.e _ (List.getElem_mem h'))]; simp only [Option.bind_some]; rw [Q2 (by omega)]) (fun ag c hc => by
    simp only; unfold F6.B1; rw [if_neg (by omega)]) (fun x hx => A7F (h.e x hx)) s.Rest.length 0 K (Z9 s.At ++ V4 (A0Y s.Machine) ++ enc s.Rest.length) (by omega) (by omega) (by simp only [List.length_append]; omega)
  refine Eq.trans this ?_; have e : Z9 s.At ++ V4 (A0Y s.Machine) ++ enc s.Rest.length ++ ((s.Rest.drop 0).map A1y).flatten = stW s := by
    unfold stW Z3; rw [List.drop_zero]; simp only [List.append_assoc]
  rw [e]; unfold F6.J1; rw [B1o (by omega) (by omega) (by omega)]
  rfl
def V5 : E5 := ⟨0, (⟨(⟨([] : List UInt8), ([] : List (List UInt8)), ([] : List Int), ([] : List A7)⟩ : C0), ([] : List B6)⟩ : A5), ([] : List B8)⟩
theorem A5V : Shr A0n := ⟨fun b bad => by
  unfold A0n; dsimp only; exact Nat.le_trans (A2f _ _ _).1 (Nat.le_trans (A2f _ _ _).1 (Nat.le_trans (A2f _ _ _).1 (Nat.le_trans (A0K _ _ _) (Nat.le_trans (A0K _ _ _) (Nat.le_trans (A0K _ _ _) (A0K _ _ _))))))⟩
theorem B1z : WR A0n A1y A3Y where
  ok := fun h => B1m h
  enc := fun rest h => B0s h rest
def A0p : Rdr (List B8) := Y6 (H6 64) A0n
theorem A8d : WR A0p (Z3 A1y) (fun xs => (xs.length : Int) ≤ 64 ∧ ∀ x ∈ xs, A3Y x) := A4F (by decide) A5V B1z
def big : Int := 549755813888
def A2O (at_ : Int) (m : A5 × Bool) (q : List B8 × List UInt8 × Bool) : E5 × Bool :=
  if m.2 = true ∧ q.2.2 = false ∧ q.2.1 = [] ∧ at_ + (q.1.length : Int) ≤ big then (⟨at_, m.1, q.1⟩, true) else (V5, false)
def A1t (x : List UInt8) : E5 × Bool :=
  let a := H6 big x false
  let p := J0 1048576 a.2.1 a.2.2
  A2O a.1 (A1j p.1) (A0p p.2.1 p.2.2)
def A1u (b : List UInt8) : E5 × Bool := match A0e b with | some x => A1t x | none => (V5, false)
structure OkS (s : E5) : Prop where
  a : 0 ≤ s.At
  b : s.At + (s.Rest.length : Int) ≤ big
  m : A5x s.Machine
  r : A1g s.Machine
  l : s.Rest.length ≤ 64
  e : ∀ e ∈ s.Rest, A3Y e
theorem A4Q {s : E5} (h : OkS s) : A3I s := ⟨A4u h.m, by have := h.l; omega, fun e he => by
  have := h.e e he; exact ⟨by have := this.l1; omega, by have := this.l2; omega, by have := this.l3; omega⟩⟩
theorem A9M {s : E5} (h : OkS s) : A1t (stW s) = (s, true) := by
  have ha := h.a; have hb := h.b; have hl := A3T (A4u h.m); have hb2 : big = 549755813888 := rfl; have hh : I8 1048576 = 1048576 := by decide
  have e1 : H6 big (stW s) false = (s.At, V4 (A0Y s.Machine) ++ Z3 A1y s.Rest, false) := (A2F (top := big) (by decide)).enc _ ⟨ha, by omega⟩; have e2 : J0 1048576 (V4 (A0Y s.Machine) ++ Z3 A1y s.Rest) false = (A0Y s.Machine, Z3 A1y s.Rest, false) := A2v.enc _ (by rw [hh]; omega); have e3 : A0p (Z3 A1y s.Rest) false = (s.Rest, [], false) := by
    have := A8d.enc (x := s.Rest) [] ⟨by have := h.l; omega, h.e⟩
    rwa [List.append_nil] at this
  unfold A1t; rw [e1]; dsimp only; rw [e2]; dsimp only; rw [e3, A8X h.m h.r]; unfold A2O; rw [if_pos ⟨rfl, rfl, rfl, hb⟩]
theorem B1q {x : List UInt8} (h : (A1t x).2 = true) : OkS (A1t x).1 ∧ x = stW (A1t x).1 := by
  unfold A1t at h ⊢; dsimp only at h ⊢; obtain ⟨a, ha⟩ : ∃ a, H6 big x false = a := ⟨_, rfl⟩; rw [ha] at h ⊢; obtain ⟨p, hp⟩ : ∃ p, J0 1048576 a.2.1 a.2.2 = p := ⟨_, rfl⟩; rw [hp] at h ⊢; unfold A2O at h ⊢; split
  · rename_i g
    obtain ⟨g1, g2, g3, g4⟩ := g; obtain ⟨m1, m2, m3⟩ := A7G g1; obtain ⟨q1, q2, q3⟩ := A8d.ok g2; rw [← hp] at q1; obtain ⟨r1, r2, r3⟩ := A2v.ok q1; rw [← ha] at r1; obtain ⟨_, t2, t3⟩ := (A2F (top := big) (by decide)).ok r1; rw [g3, List.append_nil] at q3; refine ⟨⟨by rw [← ha]; exact t2.1, g4, m1, m2, by have := q2.1; simp only; omega, q2.2⟩, ?_⟩; rw [ha] at t3; rw [hp] at r3; unfold stW; dsimp only; rw [← m3, ← q3, ← r3]; exact t3
  · rename_i g; rw [if_neg g] at h; cases h
theorem A9N {s : E5} (h : OkS s) : A1u (A1K (stW s)) = (s, true) := by
  unfold A1u; rw [A6S]; exact A9M h
theorem B1r {b : List UInt8} (h : (A1u b).2 = true) : OkS (A1u b).1 ∧ b = A1K (stW (A1u b).1) := by
  unfold A1u at h ⊢
  cases hu : A0e b with
  | none => rw [hu] at h; cases h
  | some x =>
    rw [hu] at h; obtain ⟨h1, h2⟩ := B1q h; refine ⟨h1, ?_⟩; dsimp only; rw [← h2]; exact A4G hu
theorem A8v {x : List UInt8} (h : (A1t x).2 = false) : A1t x = (V5, false) := by
  unfold A1t A2O at h ⊢; dsimp only at h ⊢; split
  · rename_i g; rw [if_pos g] at h; cases h
  · rfl
theorem B1s {b : List UInt8} (h : (A1u b).2 = false) : A1u b = (V5, false) := by
  unfold A1u at h ⊢
  cases hu : A0e b with
  | none => rfl
  | some x => rw [hu] at h; exact A8v h
theorem A6O {b : List UInt8} (h : A0e b = none) : A1u b = (V5, false) := by unfold A1u; rw [h]
theorem B0g {K : Nat} (hK : K = 2000000000) {b : List UInt8} (hb : b.length ≤ 1000000000) (bad : Bool) (t : Int × List UInt8 × Bool) (ht : t = H6 64 b bad) (ex : T0 × List B8 → Option (E5 × Bool)) :
    R1.L1 K t ex K (0, ⟨t.2.1, t.2.2⟩, []) = ex (⟨(A0p b bad).2.1, (A0p b bad).2.2⟩, (A0p b bad).1) := by
  have get : ∀ (b : List UInt8) (bad : Bool), b.length ≤ 1000000000 → A0i.f K b bad = some (A0n b bad) := fun b bad hb => by
    rw [hK]; exact A8a hb bad
  have hK2 : 1000 ≤ K := by rw [hK]; decide
  clear hK; have e64 : I8 64 = 64 := by decide
  obtain ⟨n, g1, g2⟩ := A3B 64 b bad; have s1 := A0K 64 b bad; rw [← ht] at g1 s1; rw [e64] at g2; unfold R1.L1; have l1 := A3e (rd := A0n) (f := fun again v => R1.B1 K t ex again v.1 v.2.1 v.2.2) (fun i b bad out => ((i : Int), (⟨b, bad⟩ : T0), out)) (g := fun b bad out => ex (⟨b, bad⟩, out)) (k := n) (lim := 1000000000) A5V (fun ag i b bad out hi hb ho => by
    simp only; unfold R1.B1; rw [g1, if_pos (by omega), get _ _ hb]; simp only [Option.bind_some]; rw [R6 (by simp only [List.length_singleton]; omega)]; simp only [Option.bind_some]; rw [Q2 (by omega)]) (fun ag b bad out hb ho => by
    simp only; unfold R1.B1; rw [g1, if_neg (by omega)]) n 0 K t.2.1 t.2.2 [] (by omega) (by omega) (by omega) rfl
  refine Eq.trans l1 ?_; unfold A0p Y6; rw [← ht, g1, Int.toNat_natCast, List.nil_append]
theorem A5D (b : List UInt8) (bad : Bool) : (A0p b bad).1.length ≤ 64 := by
  unfold A0p Y6; rw [(A1l A5V _ _ _).1]; have := A2n 64 b bad; have e64 : I8 64 = 64 := by decide
  omega
theorem A5h {K : Nat} (hK : K = 2000000000) {x : List UInt8} (hx : x.length ≤ 1000000000) : ∃ s, R1.f K x = some (s, (A1t x).2) ∧ ((A1t x).2 = true → s = (A1t x).1) := by
  have hK2 : 1000 ≤ K := by rw [hK]; decide
  unfold R1.f; rw [A5X (by omega)]; simp only [Option.bind_some]; rw [show (549755813888 : Int) = big from rfl, Z0 (by omega) (by omega)]; simp only [Option.bind_some]; have s1 := A0K big x false; have r1 := A2n big x false; unfold A1t; dsimp only; obtain ⟨a, ha⟩ : ∃ a, H6 big x false = a := ⟨_, rfl⟩; rw [ha] at s1 r1 ⊢; have s2 := A2f 1048576 a.2.1 a.2.2; rw [A1D (by omega) (by omega)]; simp only [Option.bind_some]; obtain ⟨p, hp⟩ : ∃ p, J0 1048576 a.2.1 a.2.2 = p := ⟨_, rfl⟩; rw [hp] at s2 ⊢; rw [A6V (by omega) (by omega)]; simp only [Option.bind_some]; rw [Z0 (by omega) (by omega)]; simp only [Option.bind_some]; rw [B0g hK (b := p.2.1) (by omega) p.2.2 _ rfl]; have hl := A5D p.2.1 p.2.2; obtain ⟨q, hq⟩ : ∃ q, A0p p.2.1 p.2.2 = q := ⟨_, rfl⟩; rw [hq] at hl ⊢; obtain ⟨m, hm⟩ : ∃ m, A1j p.1 = m := ⟨_, rfl⟩; rw [hm]; have hbig : I8 big = 549755813888 := by decide
  rw [hbig] at r1; have yes : m.2 = true → q.2.2 = false → q.2.1 = [] → a.1 + (q.1.length : Int) ≤ big → A2O a.1 m q = (⟨a.1, m.1, q.1⟩, true) := fun g1 g2 g3 g4 => if_pos ⟨g1, g2, g3, g4⟩; have no : ¬(m.2 = true ∧ q.2.2 = false ∧ q.2.1 = [] ∧ a.1 + (q.1.length : Int) ≤ big) → A2O a.1 m q = (V5, false) := fun g => if_neg g; have hbv : big = 549755813888 := rfl; unfold R1.J1 X4.f; dsimp only; rw [T9 (by omega), ← hbv]
  by_cases hat : a.1 > big - (q.1.length : Int)
  · rw [if_pos hat, no (by omega)]; exact ⟨_, rfl, fun h => by cases h⟩
  · rw [if_neg hat]
    cases hm2 : m.2 with
    | false => rw [if_neg (by simp), no (by simp [hm2])]; exact ⟨_, rfl, fun h => by cases h⟩
    | true =>
      rw [if_pos rfl]
      cases hq2 : q.2.2 with
      | true => rw [no (by simp [hq2])]; exact ⟨_, rfl, fun h => by cases h⟩
      | false =>
        by_cases h0 : q.2.1 = []
        · rw [yes hm2 hq2 h0 (by omega), h0]; exact ⟨_, rfl, fun _ => rfl⟩
        · have : ((q.2.1.length : Int) == 0) = false := by
            have : q.2.1.length ≠ 0 := fun g => h0 (List.eq_nil_of_length_eq_zero g); simp only [beq_eq_false_iff_ne]; omega
          rw [no (fun g => h0 g.2.2.1), if_neg (by simp), this]; exact ⟨_, rfl, fun h => by cases h⟩
theorem A4C {K : Nat} (hK : K = 2000000000) {b : List UInt8} (hb : b.length < K) (hb2 : b.length ≤ 1000000000) : Y0.f K b = some (A1u b) := by
  have hK2 : 1000 ≤ K := by rw [hK]; decide
  unfold Y0.f; rw [A9m (by omega) hb hb2]; simp only [Option.bind_some]
  by_cases h4 : 4 ≤ b.length
  · rw [if_pos h4]; dsimp only; obtain ⟨s, h1, h2⟩ := A5h hK (x := b.drop 4) (by rw [List.length_drop]; omega); rw [h1]; simp only [Option.bind_some]; unfold A1u Y0.J1
    cases hu : A0e b with
    | none => rw [if_neg (by simp), if_pos rfl]; rfl
    | some x =>
      have hx : x = b.drop 4 := by
        unfold A0e at hu; split at hu
        · exact (Option.some.inj hu).symm
        · cases hu
      subst hx; rw [if_pos (by simp)]; dsimp only
      cases hd : (A1t (b.drop 4)).2 with
      | true => rw [if_neg (by simp), h2 hd, ← hd]
      | false => rw [if_pos (by simp), A8v hd]; rfl
  · rw [if_neg h4]; obtain ⟨s, h1, h2⟩ := A5h hK (x := []) (by simp); rw [h1]; simp only [Option.bind_some]; have hu : A0e b = none := by unfold A0e; rw [if_neg (fun h => h4 h.1)]
    rw [if_neg (by simp), A6O hu]
    rfl
end Go.Gp
