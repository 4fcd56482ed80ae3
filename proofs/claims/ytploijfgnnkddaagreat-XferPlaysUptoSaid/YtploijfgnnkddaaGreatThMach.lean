/- What the statements say, of the plain functions. -/
import Derived.Test.YtploijfgnnkddaaGreatDefs
import Derived.Test.YtploijfgnnkddaaGreatLe
import Derived.Test.YtploijfgnnkddaaGreatThInts
import Derived.Test.YtploijfgnnkddaaGreatThPack
import Derived.Test.YtploijfgnnkddaaGreatThMesg
import Derived.Test.YtploijfgnnkddaaGreatThMesg2
import Derived.Test.YtploijfgnnkddaaGreatThMesg3
import Derived.Test.YtploijfgnnkddaaGreatThMesg4
import Derived.Test.YtploijfgnnkddaaGreatThMesg5
import Derived.Test.YtploijfgnnkddaaGreatThMesg6
import Derived.Test.YtploijfgnnkddaaGreatThMsg
import Derived.Test.YtploijfgnnkddaaGreatThMesg7
import Derived.Test.YtploijfgnnkddaaGreatThMesg8
import Derived.Test.YtploijfgnnkddaaGreatThMesgS
import Derived.Test.YtploijfgnnkddaaGreatGpCrc
import Derived.Test.YtploijfgnnkddaaGreatThCrc
import Derived.Test.YtploijfgnnkddaaGreatThFram
import Derived.Test.YtploijfgnnkddaaGreatThPack1
import Derived.Test.YtploijfgnnkddaaGreatThMesg9
import Derived.Test.YtploijfgnnkddaaGreatThMesg10
import Derived.Test.YtploijfgnnkddaaGreatThRows
/- Machines in bytes: how they are written. -/
namespace Go.Gp
open Go
def A1E (p : A7) : List UInt8 := V4 p.Key ++ V4 p.Val
def A2a (l : B6) : List UInt8 := Z9 l.Sess ++ (Z9 l.Seq ++ (Z9 l.Result.Err ++ (Z9 (w64 (l.Result.N + 1)) ++ V4 l.Result.Val)))
def A0Y (m : A5) : List UInt8 := V4 m.Objects.Reg ++ (Z3 V4 m.Objects.Queue ++ (Z3 Z9 m.Objects.Lock ++ (Z3 A1E m.Objects.Map ++ Z3 A2a m.Table)))
structure A4m (m : A5) : Prop where
  r : m.Objects.Reg.length ≤ 1000
  q : m.Objects.Queue.length ≤ 100 ∧ ∀ x ∈ m.Objects.Queue, x.length ≤ 1000
  l : m.Objects.Lock.length ≤ 100
  p : m.Objects.Map.length ≤ 100 ∧ ∀ x ∈ m.Objects.Map, x.Key.length ≤ 1000 ∧ x.Val.length ≤ 1000
  t : m.Table.length ≤ 100 ∧ ∀ x ∈ m.Table, x.Result.Val.length ≤ 1000
theorem X6 {x : List UInt8} {n : Nat} (h : x.length ≤ n) (hn : n ≤ 1000000000) : (V4 x).length ≤ n + 9 := by
  have := Z8 (n := x.length) (by omega); unfold V4; rw [List.length_append]; omega
theorem Y8 (n : Int) : (Z9 n).length ≤ 9 := A2l n
theorem A4P {p : A7} (h : p.Key.length ≤ 1000 ∧ p.Val.length ≤ 1000) : (A1E p).length ≤ 2018 := by
  have h1 := X6 h.1 (by omega); have h2 := X6 h.2 (by omega); unfold A1E; rw [List.length_append]; omega
theorem A6I {p : B6} (h : p.Result.Val.length ≤ 1000) : (A2a p).length ≤ 1045 := by
  have h1 := X6 h (by omega); have h2 := Y8 p.Sess; have h3 := Y8 p.Seq; have h4 := Y8 p.Result.Err; have h5 := Y8 (w64 (p.Result.N + 1)); unfold A2a; simp only [List.length_append]; omega
theorem A0J {α : Type} {w : α → List UInt8} {xs : List α} {B : Nat} (h : ∀ x ∈ xs, (w x).length ≤ B) (hn : xs.length ≤ 1000000) : (Z3 w xs).length ≤ 9 + xs.length * B := by
  have h1 := A7C h; have h2 := Z8 (n := xs.length) (by omega); unfold Z3; rw [List.length_append]; omega
theorem A3T {m : A5} (h : A4m m) : (A0Y m).length ≤ 500000 := by
  have h1 := X6 h.r (by omega); have h2 := A0J (w := V4) (xs := m.Objects.Queue) (B := 1009) (fun x hx => X6 (h.q.2 x hx) (by omega)) (by have := h.q.1; omega); have h3 := A0J (w := Z9) (xs := m.Objects.Lock) (B := 9) (fun x _ => Y8 x) (by have := h.l; omega); have h4 := A0J (w := A1E) (xs := m.Objects.Map) (B := 2018) (fun x hx => A4P (h.p.2 x hx)) (by have := h.p.1; omega); have h5 := A0J (w := A2a) (xs := m.Table) (B := 1045) (fun x hx => A6I (h.t.2 x hx)) (by have := h.t.1; omega); have := h.q.1; have := h.l; have := h.p.1; have := h.t.1; unfold A0Y; simp only [List.length_append]; omega
theorem A2z {K : Nat} (hK : 150 ≤ K) {b : List UInt8} (hb : b.length ≤ 10000000) (n : Int) : C9.f K b n = some (b ++ Z9 n) := A3y (by omega) (by omega) n
theorem A2M {K : Nat} (hK : 150 ≤ K) {b : List UInt8} (hb : b.length ≤ 10000000) (n : Nat) (hn : n ≤ 1000000) : C9.f K b (n : Int) = some (b ++ enc n) := by
  rw [A2z hK hb]; unfold Z9; rw [A2k n (by omega)]
theorem A2o {K : Nat} (hK : 150 ≤ K) {b x : List UInt8} (hb : b.length ≤ 10000000) (hx : x.length ≤ 10000000) : K5.f K b x = some (b ++ V4 x) := by
  rw [A3W (by omega) (by omega) (by omega)]; unfold V4; rw [List.append_assoc]
theorem A6f {K : Nat} (hK : 150 ≤ K) {m : A5} (h : A4m m) : A4.f K m = some (A0Y m) := by
  have q1 := h.q.1; have l1 := h.l; have p1 := h.p.1; have t1 := h.t.1; have b1 := X6 h.r (by omega); have b2 := A0J (w := V4) (xs := m.Objects.Queue) (B := 1009) (fun x hx => X6 (h.q.2 x hx) (by omega)) (by omega); have b3 := A0J (w := Z9) (xs := m.Objects.Lock) (B := 9) (fun x _ => Y8 x) (by omega); have b4 := A0J (w := A1E) (xs := m.Objects.Map) (B := 2018) (fun x hx => A4P (h.p.2 x hx)) (by omega); have fin4 : ∀ c : List UInt8, c.length ≤ 1000000 → A4.J3 K m c = some (c ++ Z3 A2a m.Table) := fun c hc => by
    unfold A4.J3; have he := Z8 (n := m.Table.length) (by omega); rw [A2M hK (by omega) _ (by omega)]; simp only [Option.bind_some]; unfold A4.L1; have := A3G (f := fun again v => A4.B1 K m (fun v => A4.J4 K v) again v.1 v.2) (xs := m.Table) (w := A2a) (g := fun v => A4.J4 K v) (B := 1045) (lim := 1500000) (fun ag i h' c hc => by
      simp only; unfold A4.B1; rw [if_pos (by omega), O7 (by omega) (by simpa using h')]; simp only [Option.bind_some, Int.toNat_natCast]; have hv := h.t.2 _ (List.getElem_mem h'); have g1 := Y8 m.Table[i].Sess; have g2 := Y8 m.Table[i].Seq; have g3 := Y8 m.Table[i].Result.Err; have g4 := Y8 (w64 (m.Table[i].Result.N + 1)); rw [A2z hK (by omega)]; simp only [Option.bind_some]; rw [A2z hK (by simp only [List.length_append]; omega)]; simp only [Option.bind_some]; rw [A2z hK (by simp only [List.length_append]; omega)]; simp only [Option.bind_some]; rw [A2z hK (by simp only [List.length_append]; omega)]; simp only [Option.bind_some]; rw [A2o hK (by simp only [List.length_append]; omega) (by omega)]; simp only [Option.bind_some]; rw [Q2 (by omega)]; unfold A2a; simp only [List.append_assoc]) (fun ag c hc => by
      simp only; unfold A4.B1; rw [if_neg (by omega)]) (fun x hx => A6I (h.t.2 x hx)) m.Table.length 0 K (c ++ enc m.Table.length) (by omega) (by omega) (by rw [List.length_append]; omega)
    refine Eq.trans this ?_; unfold A4.J4 Z3; rw [List.drop_zero, List.append_assoc]
  have fin3 : ∀ c : List UInt8, c.length ≤ 500000 → A4.J2 K m c = some (c ++ (Z3 A1E m.Objects.Map ++ Z3 A2a m.Table)) := fun c hc => by
    unfold A4.J2; have he := Z8 (n := m.Objects.Map.length) (by omega); rw [A2M hK (by omega) _ (by omega)]; simp only [Option.bind_some]; unfold A4.L2; have := A3G (f := fun again v => A4.B2 K m (fun v => A4.J3 K m v) again v.1 v.2) (xs := m.Objects.Map) (w := A1E) (g := fun v => A4.J3 K m v) (B := 2018) (lim := 1000000) (fun ag i h' c hc => by
      simp only; unfold A4.B2; rw [if_pos (by omega), O7 (by omega) (by simpa using h')]; simp only [Option.bind_some, Int.toNat_natCast]; have hv := h.p.2 _ (List.getElem_mem h'); have g1 := X6 hv.1 (by omega); rw [A2o hK (by omega) (by omega)]; simp only [Option.bind_some]; rw [A2o hK (by rw [List.length_append]; omega) (by omega)]; simp only [Option.bind_some]; rw [Q2 (by omega)]; unfold A1E; simp only [List.append_assoc]) (fun ag c hc => by
      simp only; unfold A4.B2; rw [if_neg (by omega)]) (fun x hx => A4P (h.p.2 x hx)) m.Objects.Map.length 0 K (c ++ enc m.Objects.Map.length) (by omega) (by omega) (by rw [List.length_append]; omega)
    refine Eq.trans this ?_; rw [List.drop_zero, List.append_assoc]; have hb : (c ++ Z3 A1E m.Objects.Map).length ≤ 1000000 := by rw [List.length_append]; omega
    refine (fin4 _ hb).trans ?_; rw [List.append_assoc]
  have fin2 : ∀ c : List UInt8, c.length ≤ 400000 → A4.J1 K m c = some (c ++ (Z3 Z9 m.Objects.Lock ++ (Z3 A1E m.Objects.Map ++ Z3 A2a m.Table))) := fun c hc => by
    unfold A4.J1; have he := Z8 (n := m.Objects.Lock.length) (by omega); rw [A2M hK (by omega) _ (by omega)]; simp only [Option.bind_some]; unfold A4.L3; have := A3G (f := fun again v => A4.B3 K m (fun v => A4.J2 K m v) again v.1 v.2) (xs := m.Objects.Lock) (w := Z9) (g := fun v => A4.J2 K m v) (B := 9) (lim := 1000000) (fun ag i h' c hc => by
      simp only; unfold A4.B3; rw [if_pos (by omega), O7 (by omega) (by simpa using h')]; simp only [Option.bind_some, Int.toNat_natCast]; rw [A2z hK (by omega)]; simp only [Option.bind_some]; rw [Q2 (by omega)]) (fun ag c hc => by
      simp only; unfold A4.B3; rw [if_neg (by omega)]) (fun x _ => Y8 x) m.Objects.Lock.length 0 K (c ++ enc m.Objects.Lock.length) (by omega) (by omega) (by rw [List.length_append]; omega)
    refine Eq.trans this ?_; rw [List.drop_zero, List.append_assoc]; have hb : (c ++ Z3 Z9 m.Objects.Lock).length ≤ 500000 := by rw [List.length_append]; omega
    refine (fin3 _ hb).trans ?_; rw [List.append_assoc]
  unfold A4.f; have he := Z8 (n := m.Objects.Queue.length) (by omega); rw [A2o hK (by simp) (by have := h.r; omega)]; simp only [Option.bind_some, List.nil_append]; rw [A2M hK (by omega) _ (by omega)]; simp only [Option.bind_some]; unfold A4.L4; have := A3G (f := fun again v => A4.B4 K m (fun v => A4.J1 K m v) again v.1 v.2) (xs := m.Objects.Queue) (w := V4) (g := fun v => A4.J1 K m v) (B := 1009) (lim := 1000000) (fun ag i h' c hc => by
    simp only; unfold A4.B4; rw [if_pos (by omega), O7 (by omega) (by simpa using h')]; simp only [Option.bind_some, Int.toNat_natCast]; rw [A2o hK (by omega) (by have := h.q.2 _ (List.getElem_mem h'); omega)]; simp only [Option.bind_some]; rw [Q2 (by omega)]) (fun ag c hc => by
    simp only; unfold A4.B4; rw [if_neg (by omega)]) (fun x hx => X6 (h.q.2 x hx) (by omega)) m.Objects.Queue.length 0 K (V4 m.Objects.Reg ++ enc m.Objects.Queue.length) (by omega) (by omega) (by rw [List.length_append]; omega)
  refine Eq.trans this ?_; rw [List.drop_zero, List.append_assoc]; have hb : (V4 m.Objects.Reg ++ Z3 V4 m.Objects.Queue).length ≤ 400000 := by rw [List.length_append]; omega
  refine (fin2 _ hb).trans ?_; unfold A0Y; rw [List.append_assoc]
end Go.Gp
