/- What the statements say, of the plain functions. -/
import Derived.Test.YtploijfgnnkddaaDefs
import Derived.Test.YtploijfgnnkddaaLe
import Derived.Test.YtploijfgnnkddaaThInts
import Derived.Test.YtploijfgnnkddaaThPack
import Derived.Test.YtploijfgnnkddaaThMesg
import Derived.Test.YtploijfgnnkddaaThMesg2
import Derived.Test.YtploijfgnnkddaaThMesg3
import Derived.Test.YtploijfgnnkddaaThMesg4
import Derived.Test.YtploijfgnnkddaaThMesg5
import Derived.Test.YtploijfgnnkddaaThMesg6
import Derived.Test.YtploijfgnnkddaaThMsg
import Derived.Test.YtploijfgnnkddaaThMesg7
import Derived.Test.YtploijfgnnkddaaThMesg8
import Derived.Test.YtploijfgnnkddaaThMesgS
import Derived.Test.YtploijfgnnkddaaGpCrc
import Derived.Test.YtploijfgnnkddaaThCrc
import Derived.Test.YtploijfgnnkddaaThFram
import Derived.Test.YtploijfgnnkddaaThPack1
import Derived.Test.YtploijfgnnkddaaThMesg9
import Derived.Test.YtploijfgnnkddaaThMesg10
import Derived.Test.YtploijfgnnkddaaThRows
/- Machines in bytes: how they are written. -/
namespace Go.Gp
open Go
def pairW (p : api_Pair) : List UInt8 := bytesW p.Key ++ bytesW p.Val
def lastW (l : api_Last) : List UInt8 := numW l.Sess ++ (numW l.Seq ++ (numW l.Result.Err ++ (numW (w64 (l.Result.N + 1)) ++ bytesW l.Result.Val)))
def machW (m : api_Machine) : List UInt8 := bytesW m.Objects.Reg ++ (rowW bytesW m.Objects.Queue ++ (rowW numW m.Objects.Lock ++ (rowW pairW m.Objects.Map ++ rowW lastW m.Table)))
/-- A machine that is small. -/
structure SmallM (m : api_Machine) : Prop where
  r : m.Objects.Reg.length ≤ 1000
  q : m.Objects.Queue.length ≤ 100 ∧ ∀ x ∈ m.Objects.Queue, x.length ≤ 1000
  l : m.Objects.Lock.length ≤ 100
  p : m.Objects.Map.length ≤ 100 ∧ ∀ x ∈ m.Objects.Map, x.Key.length ≤ 1000 ∧ x.Val.length ≤ 1000
  t : m.Table.length ≤ 100 ∧ ∀ x ∈ m.Table, x.Result.Val.length ≤ 1000
theorem bytesW_len {x : List UInt8} {n : Nat} (h : x.length ≤ n) (hn : n ≤ 1000000000) : (bytesW x).length ≤ n + 9 := by
  have := enc_len9 (n := x.length) (by omega)
  unfold bytesW
  rw [List.length_append]; omega
theorem numW_len (n : Int) : (numW n).length ≤ 9 := enc_held n
theorem pairW_len {p : api_Pair} (h : p.Key.length ≤ 1000 ∧ p.Val.length ≤ 1000) : (pairW p).length ≤ 2018 := by
  have h1 := bytesW_len h.1 (by omega)
  have h2 := bytesW_len h.2 (by omega)
  unfold pairW
  rw [List.length_append]; omega
theorem lastW_len {p : api_Last} (h : p.Result.Val.length ≤ 1000) : (lastW p).length ≤ 1045 := by
  have h1 := bytesW_len h (by omega)
  have h2 := numW_len p.Sess
  have h3 := numW_len p.Seq
  have h4 := numW_len p.Result.Err
  have h5 := numW_len (w64 (p.Result.N + 1))
  unfold lastW
  simp only [List.length_append]; omega
theorem rowW_len {α : Type} {w : α → List UInt8} {xs : List α} {B : Nat} (h : ∀ x ∈ xs, (w x).length ≤ B) (hn : xs.length ≤ 1000000) : (rowW w xs).length ≤ 9 + xs.length * B := by
  have h1 := flat_len h
  have h2 := enc_len9 (n := xs.length) (by omega)
  unfold rowW
  rw [List.length_append]; omega
theorem machW_len {m : api_Machine} (h : SmallM m) : (machW m).length ≤ 500000 := by
  have h1 := bytesW_len h.r (by omega)
  have h2 := rowW_len (w := bytesW) (xs := m.Objects.Queue) (B := 1009) (fun x hx => bytesW_len (h.q.2 x hx) (by omega)) (by have := h.q.1; omega)
  have h3 := rowW_len (w := numW) (xs := m.Objects.Lock) (B := 9) (fun x _ => numW_len x) (by have := h.l; omega)
  have h4 := rowW_len (w := pairW) (xs := m.Objects.Map) (B := 2018) (fun x hx => pairW_len (h.p.2 x hx)) (by have := h.p.1; omega)
  have h5 := rowW_len (w := lastW) (xs := m.Table) (B := 1045) (fun x hx => lastW_len (h.t.2 x hx)) (by have := h.t.1; omega)
  have := h.q.1
  have := h.l
  have := h.p.1
  have := h.t.1
  unfold machW
  simp only [List.length_append]
  omega
theorem numw_eq {K : Nat} (hK : 150 ≤ K) {b : List UInt8} (hb : b.length ≤ 10000000) (n : Int) : pack_Num.f K b n = some (b ++ numW n) := num_eq (by omega) (by omega) n
theorem numrow_eq {K : Nat} (hK : 150 ≤ K) {b : List UInt8} (hb : b.length ≤ 10000000) (n : Nat) (hn : n ≤ 1000000) : pack_Num.f K b (n : Int) = some (b ++ enc n) := by
  rw [numw_eq hK hb]; unfold numW; rw [held2_nat n (by omega)]
theorem bytesw_eq {K : Nat} (hK : 150 ≤ K) {b x : List UInt8} (hb : b.length ≤ 10000000) (hx : x.length ≤ 10000000) : pack_Bytes.f K b x = some (b ++ bytesW x) := by
  rw [bytes_eq (by omega) (by omega) (by omega)]; unfold bytesW; rw [List.append_assoc]
theorem num1w_eq {K : Nat} (hK : 150 ≤ K) {b : List UInt8} (hb : b.length ≤ 10000000) (n : Int) : hocketref1_Num.f K b n = some (b ++ numW n) := num1_eq (by omega) (by omega) n
theorem num1row_eq {K : Nat} (hK : 150 ≤ K) {b : List UInt8} (hb : b.length ≤ 10000000) (n : Nat) (hn : n ≤ 1000000) : hocketref1_Num.f K b (n : Int) = some (b ++ enc n) := by
  rw [num1w_eq hK hb]; unfold numW; rw [held2_nat n (by omega)]
theorem bytes1w_eq {K : Nat} (hK : 150 ≤ K) {b x : List UInt8} (hb : b.length ≤ 10000000) (hx : x.length ≤ 10000000) : hocketref1_Bytes.f K b x = some (b ++ bytesW x) := by
  rw [bytes1_eq (by omega) (by omega) (by omega)]; unfold bytesW; rw [List.append_assoc]
theorem four_nums {K : Nat} (hK : 150 ≤ K) (c : List UInt8) (l : api_Last) (ex : List UInt8 → Option (List UInt8)) (hc : c.length ≤ 1500000) : mach_Encode.L2 K l ex K (c, 0) = ex (c ++ (numW l.Sess ++ (numW l.Seq ++ (numW l.Result.Err ++ numW (w64 (l.Result.N + 1)))))) := by
  unfold mach_Encode.L2
  obtain ⟨xs, hxs⟩ : ∃ xs : List Int, xs = [l.Sess, l.Seq, l.Result.Err, w64 (l.Result.N + 1)] := ⟨_, rfl⟩
  have h4 : xs.length = 4 := by rw [hxs]; rfl
  have := enc_iter (f := fun again v => mach_Encode.B2 K l ex again v.1 v.2) (xs := xs) (w := numW) (g := ex) (B := 9) (lim := 2000000) (fun ag i h c hc => by
    simp only
    unfold mach_Encode.B2
    rw [← hxs, if_pos (by omega), ix_get (by omega) (by simpa using h)]
    simp only [Option.bind_some, Int.toNat_natCast]
    rw [numw_eq hK (by omega)]
    simp only [Option.bind_some]
    rw [w64_succN (by omega)]) (fun ag c hc => by
    simp only
    unfold mach_Encode.B2
    rw [← hxs, if_neg (by omega)]) (fun x _ => numW_len x) 4 0 K c (by omega) (by omega) (by omega)
  refine Eq.trans this ?_
  rw [List.drop_zero, hxs]
  simp
theorem machEncode_eq {K : Nat} (hK : 150 ≤ K) {m : api_Machine} (h : SmallM m) : mach_Encode.f K m = some (machW m) := by
  have q1 := h.q.1
  have l1 := h.l
  have p1 := h.p.1
  have t1 := h.t.1
  have b1 := bytesW_len h.r (by omega)
  have b2 := rowW_len (w := bytesW) (xs := m.Objects.Queue) (B := 1009) (fun x hx => bytesW_len (h.q.2 x hx) (by omega)) (by omega)
  have b3 := rowW_len (w := numW) (xs := m.Objects.Lock) (B := 9) (fun x _ => numW_len x) (by omega)
  have b4 := rowW_len (w := pairW) (xs := m.Objects.Map) (B := 2018) (fun x hx => pairW_len (h.p.2 x hx)) (by omega)
  have fin4 : ∀ c : List UInt8, c.length ≤ 1000000 → mach_Encode.J3 K m c = some (c ++ rowW lastW m.Table) := fun c hc => by
    unfold mach_Encode.J3
    have he := enc_len9 (n := m.Table.length) (by omega)
    rw [numrow_eq hK (by omega) _ (by omega)]
    simp only [Option.bind_some]
    unfold mach_Encode.L1
    have := enc_iter (f := fun again v => mach_Encode.B1 K m (fun v => mach_Encode.J4 K v) again v.1 v.2) (xs := m.Table) (w := lastW) (g := fun v => mach_Encode.J4 K v) (B := 1045) (lim := 1500000) (fun ag i h' c hc => by
      simp only
      unfold mach_Encode.B1
      rw [if_pos (by omega), ix_get (by omega) (by simpa using h')]
      simp only [Option.bind_some, Int.toNat_natCast]
      rw [four_nums hK _ _ _ (by omega)]
      have hv := h.t.2 _ (List.getElem_mem h')
      have g1 := numW_len m.Table[i].Sess
      have g2 := numW_len m.Table[i].Seq
      have g3 := numW_len m.Table[i].Result.Err
      have g4 := numW_len (w64 (m.Table[i].Result.N + 1))
      unfold mach_Encode.J5
      rw [bytesw_eq hK (by simp only [List.length_append]; omega) (by omega)]
      simp only [Option.bind_some]
      rw [w64_succN (by omega)]
      unfold lastW
      simp only [List.append_assoc]) (fun ag c hc => by
      simp only
      unfold mach_Encode.B1
      rw [if_neg (by omega)]) (fun x hx => lastW_len (h.t.2 x hx)) m.Table.length 0 K (c ++ enc m.Table.length) (by omega) (by omega) (by rw [List.length_append]; omega)
    refine Eq.trans this ?_
    unfold mach_Encode.J4 rowW
    rw [List.drop_zero, List.append_assoc]
  have fin3 : ∀ c : List UInt8, c.length ≤ 500000 → mach_Encode.J2 K m c = some (c ++ (rowW pairW m.Objects.Map ++ rowW lastW m.Table)) := fun c hc => by
    unfold mach_Encode.J2
    have he := enc_len9 (n := m.Objects.Map.length) (by omega)
    rw [numrow_eq hK (by omega) _ (by omega)]
    simp only [Option.bind_some]
    unfold mach_Encode.L3
    have := enc_iter (f := fun again v => mach_Encode.B3 K m (fun v => mach_Encode.J3 K m v) again v.1 v.2) (xs := m.Objects.Map) (w := pairW) (g := fun v => mach_Encode.J3 K m v) (B := 2018) (lim := 1000000) (fun ag i h' c hc => by
      simp only
      unfold mach_Encode.B3
      rw [if_pos (by omega), ix_get (by omega) (by simpa using h')]
      simp only [Option.bind_some, Int.toNat_natCast]
      have hv := h.p.2 _ (List.getElem_mem h')
      have g1 := bytesW_len hv.1 (by omega)
      rw [bytesw_eq hK (by omega) (by omega)]
      simp only [Option.bind_some]
      rw [bytesw_eq hK (by rw [List.length_append]; omega) (by omega)]
      simp only [Option.bind_some]
      rw [w64_succN (by omega)]
      unfold pairW
      simp only [List.append_assoc]) (fun ag c hc => by
      simp only
      unfold mach_Encode.B3
      rw [if_neg (by omega)]) (fun x hx => pairW_len (h.p.2 x hx)) m.Objects.Map.length 0 K (c ++ enc m.Objects.Map.length) (by omega) (by omega) (by rw [List.length_append]; omega)
    refine Eq.trans this ?_
    rw [List.drop_zero, List.append_assoc]
    have hb : (c ++ rowW pairW m.Objects.Map).length ≤ 1000000 := by rw [List.length_append]; omega
    refine (fin4 _ hb).trans ?_
    rw [List.append_assoc]
  have fin2 : ∀ c : List UInt8, c.length ≤ 400000 → mach_Encode.J1 K m c = some (c ++ (rowW numW m.Objects.Lock ++ (rowW pairW m.Objects.Map ++ rowW lastW m.Table))) := fun c hc => by
    unfold mach_Encode.J1
    have he := enc_len9 (n := m.Objects.Lock.length) (by omega)
    rw [numrow_eq hK (by omega) _ (by omega)]
    simp only [Option.bind_some]
    unfold mach_Encode.L4
    have := enc_iter (f := fun again v => mach_Encode.B4 K m (fun v => mach_Encode.J2 K m v) again v.1 v.2) (xs := m.Objects.Lock) (w := numW) (g := fun v => mach_Encode.J2 K m v) (B := 9) (lim := 1000000) (fun ag i h' c hc => by
      simp only
      unfold mach_Encode.B4
      rw [if_pos (by omega), ix_get (by omega) (by simpa using h')]
      simp only [Option.bind_some, Int.toNat_natCast]
      rw [numw_eq hK (by omega)]
      simp only [Option.bind_some]
      rw [w64_succN (by omega)]) (fun ag c hc => by
      simp only
      unfold mach_Encode.B4
      rw [if_neg (by omega)]) (fun x _ => numW_len x) m.Objects.Lock.length 0 K (c ++ enc m.Objects.Lock.length) (by omega) (by omega) (by rw [List.length_append]; omega)
    refine Eq.trans this ?_
    rw [List.drop_zero, List.append_assoc]
    have hb : (c ++ rowW numW m.Objects.Lock).length ≤ 500000 := by rw [List.length_append]; omega
    refine (fin3 _ hb).trans ?_
    rw [List.append_assoc]
  unfold mach_Encode.f
  have he := enc_len9 (n := m.Objects.Queue.length) (by omega)
  rw [bytesw_eq hK (by simp) (by have := h.r; omega)]
  simp only [Option.bind_some, List.nil_append]
  rw [numrow_eq hK (by omega) _ (by omega)]
  simp only [Option.bind_some]
  unfold mach_Encode.L5
  have := enc_iter (f := fun again v => mach_Encode.B5 K m (fun v => mach_Encode.J1 K m v) again v.1 v.2) (xs := m.Objects.Queue) (w := bytesW) (g := fun v => mach_Encode.J1 K m v) (B := 1009) (lim := 1000000) (fun ag i h' c hc => by
    simp only
    unfold mach_Encode.B5
    rw [if_pos (by omega), ix_get (by omega) (by simpa using h')]
    simp only [Option.bind_some, Int.toNat_natCast]
    rw [bytesw_eq hK (by omega) (by have := h.q.2 _ (List.getElem_mem h'); omega)]
    simp only [Option.bind_some]
    rw [w64_succN (by omega)]) (fun ag c hc => by
    simp only
    unfold mach_Encode.B5
    rw [if_neg (by omega)]) (fun x hx => bytesW_len (h.q.2 x hx) (by omega)) m.Objects.Queue.length 0 K (bytesW m.Objects.Reg ++ enc m.Objects.Queue.length) (by omega) (by omega) (by rw [List.length_append]; omega)
  refine Eq.trans this ?_
  rw [List.drop_zero, List.append_assoc]
  have hb : (bytesW m.Objects.Reg ++ rowW bytesW m.Objects.Queue).length ≤ 400000 := by rw [List.length_append]; omega
  refine (fin2 _ hb).trans ?_
  unfold machW
  rw [List.append_assoc]
theorem machEncode1_eq {K : Nat} (hK : 150 ≤ K) {m : api_Machine} (h : SmallM m) : hocketref4_Encode.f K m = some (machW m) := by
  have q1 := h.q.1
  have l1 := h.l
  have p1 := h.p.1
  have t1 := h.t.1
  have b1 := bytesW_len h.r (by omega)
  have b2 := rowW_len (w := bytesW) (xs := m.Objects.Queue) (B := 1009) (fun x hx => bytesW_len (h.q.2 x hx) (by omega)) (by omega)
  have b3 := rowW_len (w := numW) (xs := m.Objects.Lock) (B := 9) (fun x _ => numW_len x) (by omega)
  have b4 := rowW_len (w := pairW) (xs := m.Objects.Map) (B := 2018) (fun x hx => pairW_len (h.p.2 x hx)) (by omega)
  have fin4 : ∀ c : List UInt8, c.length ≤ 1000000 → hocketref4_Encode.J3 K m c = some (c ++ rowW lastW m.Table) := fun c hc => by
    unfold hocketref4_Encode.J3
    have he := enc_len9 (n := m.Table.length) (by omega)
    rw [num1row_eq hK (by omega) _ (by omega)]
    simp only [Option.bind_some]
    unfold hocketref4_Encode.L1
    have := enc_iter (f := fun again v => hocketref4_Encode.B1 K m (fun v => hocketref4_Encode.J4 K v) again v.1 v.2) (xs := m.Table) (w := lastW) (g := fun v => hocketref4_Encode.J4 K v) (B := 1045) (lim := 1500000) (fun ag i h' c hc => by
      simp only
      unfold hocketref4_Encode.B1
      rw [if_pos (by omega), ix_get (by omega) (by simpa using h')]
      simp only [Option.bind_some, Int.toNat_natCast]
      have hv := h.t.2 _ (List.getElem_mem h')
      have g1 := numW_len m.Table[i].Sess
      have g2 := numW_len m.Table[i].Seq
      have g3 := numW_len m.Table[i].Result.Err
      have g4 := numW_len (w64 (m.Table[i].Result.N + 1))
      rw [num1w_eq hK (by omega)]
      simp only [Option.bind_some]
      rw [num1w_eq hK (by simp only [List.length_append]; omega)]
      simp only [Option.bind_some]
      rw [num1w_eq hK (by simp only [List.length_append]; omega)]
      simp only [Option.bind_some]
      rw [num1w_eq hK (by simp only [List.length_append]; omega)]
      simp only [Option.bind_some]
      rw [bytes1w_eq hK (by simp only [List.length_append]; omega) (by omega)]
      simp only [Option.bind_some]
      rw [w64_succN (by omega)]
      unfold lastW
      simp only [List.append_assoc]) (fun ag c hc => by
      simp only
      unfold hocketref4_Encode.B1
      rw [if_neg (by omega)]) (fun x hx => lastW_len (h.t.2 x hx)) m.Table.length 0 K (c ++ enc m.Table.length) (by omega) (by omega) (by rw [List.length_append]; omega)
    refine Eq.trans this ?_
    unfold hocketref4_Encode.J4 rowW
    rw [List.drop_zero, List.append_assoc]
  have fin3 : ∀ c : List UInt8, c.length ≤ 500000 → hocketref4_Encode.J2 K m c = some (c ++ (rowW pairW m.Objects.Map ++ rowW lastW m.Table)) := fun c hc => by
    unfold hocketref4_Encode.J2
    have he := enc_len9 (n := m.Objects.Map.length) (by omega)
    rw [num1row_eq hK (by omega) _ (by omega)]
    simp only [Option.bind_some]
    unfold hocketref4_Encode.L2
    have := enc_iter (f := fun again v => hocketref4_Encode.B2 K m (fun v => hocketref4_Encode.J3 K m v) again v.1 v.2) (xs := m.Objects.Map) (w := pairW) (g := fun v => hocketref4_Encode.J3 K m v) (B := 2018) (lim := 1000000) (fun ag i h' c hc => by
      simp only
      unfold hocketref4_Encode.B2
      rw [if_pos (by omega), ix_get (by omega) (by simpa using h')]
      simp only [Option.bind_some, Int.toNat_natCast]
      have hv := h.p.2 _ (List.getElem_mem h')
      have g1 := bytesW_len hv.1 (by omega)
      rw [bytes1w_eq hK (by omega) (by omega)]
      simp only [Option.bind_some]
      rw [bytes1w_eq hK (by rw [List.length_append]; omega) (by omega)]
      simp only [Option.bind_some]
      rw [w64_succN (by omega)]
      unfold pairW
      simp only [List.append_assoc]) (fun ag c hc => by
      simp only
      unfold hocketref4_Encode.B2
      rw [if_neg (by omega)]) (fun x hx => pairW_len (h.p.2 x hx)) m.Objects.Map.length 0 K (c ++ enc m.Objects.Map.length) (by omega) (by omega) (by rw [List.length_append]; omega)
    refine Eq.trans this ?_
    rw [List.drop_zero, List.append_assoc]
    have hb : (c ++ rowW pairW m.Objects.Map).length ≤ 1000000 := by rw [List.length_append]; omega
    refine (fin4 _ hb).trans ?_
    rw [List.append_assoc]
  have fin2 : ∀ c : List UInt8, c.length ≤ 400000 → hocketref4_Encode.J1 K m c = some (c ++ (rowW numW m.Objects.Lock ++ (rowW pairW m.Objects.Map ++ rowW lastW m.Table))) := fun c hc => by
    unfold hocketref4_Encode.J1
    have he := enc_len9 (n := m.Objects.Lock.length) (by omega)
    rw [num1row_eq hK (by omega) _ (by omega)]
    simp only [Option.bind_some]
    unfold hocketref4_Encode.L3
    have := enc_iter (f := fun again v => hocketref4_Encode.B3 K m (fun v => hocketref4_Encode.J2 K m v) again v.1 v.2) (xs := m.Objects.Lock) (w := numW) (g := fun v => hocketref4_Encode.J2 K m v) (B := 9) (lim := 1000000) (fun ag i h' c hc => by
      simp only
      unfold hocketref4_Encode.B3
      rw [if_pos (by omega), ix_get (by omega) (by simpa using h')]
      simp only [Option.bind_some, Int.toNat_natCast]
      rw [num1w_eq hK (by omega)]
      simp only [Option.bind_some]
      rw [w64_succN (by omega)]) (fun ag c hc => by
      simp only
      unfold hocketref4_Encode.B3
      rw [if_neg (by omega)]) (fun x _ => numW_len x) m.Objects.Lock.length 0 K (c ++ enc m.Objects.Lock.length) (by omega) (by omega) (by rw [List.length_append]; omega)
    refine Eq.trans this ?_
    rw [List.drop_zero, List.append_assoc]
    have hb : (c ++ rowW numW m.Objects.Lock).length ≤ 500000 := by rw [List.length_append]; omega
    refine (fin3 _ hb).trans ?_
    rw [List.append_assoc]
  unfold hocketref4_Encode.f
  have he := enc_len9 (n := m.Objects.Queue.length) (by omega)
  rw [bytes1w_eq hK (by simp) (by have := h.r; omega)]
  simp only [Option.bind_some, List.nil_append]
  rw [num1row_eq hK (by omega) _ (by omega)]
  simp only [Option.bind_some]
  unfold hocketref4_Encode.L4
  have := enc_iter (f := fun again v => hocketref4_Encode.B4 K m (fun v => hocketref4_Encode.J1 K m v) again v.1 v.2) (xs := m.Objects.Queue) (w := bytesW) (g := fun v => hocketref4_Encode.J1 K m v) (B := 1009) (lim := 1000000) (fun ag i h' c hc => by
    simp only
    unfold hocketref4_Encode.B4
    rw [if_pos (by omega), ix_get (by omega) (by simpa using h')]
    simp only [Option.bind_some, Int.toNat_natCast]
    rw [bytes1w_eq hK (by omega) (by have := h.q.2 _ (List.getElem_mem h'); omega)]
    simp only [Option.bind_some]
    rw [w64_succN (by omega)]) (fun ag c hc => by
    simp only
    unfold hocketref4_Encode.B4
    rw [if_neg (by omega)]) (fun x hx => bytesW_len (h.q.2 x hx) (by omega)) m.Objects.Queue.length 0 K (bytesW m.Objects.Reg ++ enc m.Objects.Queue.length) (by omega) (by omega) (by rw [List.length_append]; omega)
  refine Eq.trans this ?_
  rw [List.drop_zero, List.append_assoc]
  have hb : (bytesW m.Objects.Reg ++ rowW bytesW m.Objects.Queue).length ≤ 400000 := by rw [List.length_append]; omega
  refine (fin2 _ hb).trans ?_
  unfold machW
  rw [List.append_assoc]
end Go.Gp
