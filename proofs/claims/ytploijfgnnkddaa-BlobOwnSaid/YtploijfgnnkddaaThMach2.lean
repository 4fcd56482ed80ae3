/- What the statements say, of the plain functions. -/
import Derived.Test.YtploijfgnnkddaaDefs
import Derived.Test.YtploijfgnnkddaaLe
import Derived.Test.YtploijfgnnkddaaThInts
import Derived.Test.YtploijfgnnkddaaThPack
import Derived.Test.YtploijfgnnkddaaThMesg
import Derived.Test.YtploijfgnnkddaaThMesg2
import Derived.Test.YtploijfgnnkddaaThMesg3
import Derived.Test.YtploijfgnnkddaaThMesg4
import Derived.Test.YtploijfgnnkddaaThMesg5
import Derived.Test.YtploijfgnnkddaaThMesg6
import Derived.Test.YtploijfgnnkddaaThMsg
import Derived.Test.YtploijfgnnkddaaThMesg7
import Derived.Test.YtploijfgnnkddaaThMesg8
import Derived.Test.YtploijfgnnkddaaThMesgS
import Derived.Test.YtploijfgnnkddaaGpCrc
import Derived.Test.YtploijfgnnkddaaThCrc
import Derived.Test.YtploijfgnnkddaaThFram
import Derived.Test.YtploijfgnnkddaaThPack1
import Derived.Test.YtploijfgnnkddaaThMesg9
import Derived.Test.YtploijfgnnkddaaThMesg10
import Derived.Test.YtploijfgnnkddaaThRows
import Derived.Test.YtploijfgnnkddaaThMach
/- Machines in bytes: how they are read. -/
namespace Go.Gp
open Go
/-! ### strings in their order -/
theorem u8_lt {a b : UInt8} : a < b ↔ a.toNat < b.toNat := UInt8.lt_iff_toNat_lt
theorem u8_eq {a b : UInt8} : a = b ↔ a.toNat = b.toNat := UInt8.toNat_inj.symm
theorem slt_cons (a b : UInt8) (x y : List UInt8) : slt (a :: x) (b :: y) = true ↔ a < b ∨ (a = b ∧ slt x y = true) := by
  show (decide (a < b) || (a == b && slt x y)) = true ↔ _
  simp
theorem slt_trans : ∀ {p q r : List UInt8}, slt p q = true → slt q r = true → slt p r = true
  | [], [], _, h, _ => by cases h
  | [], _ :: _, [], _, k => by cases k
  | [], _ :: _, _ :: _, _, _ => rfl
  | _ :: _, [], _, h, _ => by cases h
  | _ :: _, _ :: _, [], _, k => by cases k
  | a :: x, b :: y, c :: z, h, k => by
    rw [slt_cons] at *
    rw [u8_lt, u8_eq] at *
    rcases h with h | ⟨h, h'⟩ <;> rcases k with k | ⟨k, k'⟩
    · left; omega
    · left; omega
    · left; omega
    · exact .inr ⟨by omega, slt_trans h' k'⟩
theorem slt_tri : ∀ {p q : List UInt8}, slt p q = false → p ≠ q → slt q p = true
  | [], [], _, h => absurd rfl h
  | [], _ :: _, h, _ => by cases h
  | _ :: _, [], _, _ => rfl
  | a :: x, b :: y, h, hne => by
    have h' : ¬(a < b ∨ (a = b ∧ slt x y = true)) := fun g => by
      have := (slt_cons a b x y).2 g
      rw [this] at h; cases h
    rw [slt_cons]
    by_cases he : a = b
    · subst he
      right
      refine ⟨rfl, slt_tri ?_ (fun g => hne (by rw [g]))⟩
      cases hs : slt x y with
      | false => rfl
      | true => exact absurd (.inr ⟨rfl, hs⟩) h'
    · left
      have h1 : ¬a < b := fun g => h' (.inl g)
      rw [u8_lt] at *
      rw [u8_eq] at he
      omega
theorem bcmp_pos : ∀ {p q : List UInt8}, bcmp p q > 0 ↔ slt q p = true
  | [], [] => by decide
  | [], _ :: _ => by simp [bcmp, slt]
  | _ :: _, [] => by simp [bcmp, slt]
  | a :: x, b :: y => by
    rw [slt_cons]
    show (if a < b then (-1 : Int) else if b < a then 1 else bcmp x y) > 0 ↔ _
    split
    · rename_i h
      rw [u8_lt] at *
      rw [u8_eq]
      constructor
      · intro g; omega
      · intro g; rcases g with g | g <;> omega
    · rename_i h
      split
      · rename_i h2; simp [h2]
      · rename_i h2
        have he : b = a := by rw [u8_lt] at *; rw [u8_eq]; omega
        rw [bcmp_pos]
        simp [he]
/-! ### in order, each against the one ahead -/
theorem adj_pair {α : Type} {R : α → α → Prop} (ht : ∀ {a b c}, R a b → R b c → R a c) : ∀ {l : List α}, (∀ (i : Nat) (h : i + 1 < l.length), R (l[i]'(by omega)) l[i + 1]) → l.Pairwise R
  | [], _ => .nil
  | [_], _ => by simp
  | a :: b :: l, h => by
    have h1 := adj_pair (R := R) ht (l := b :: l) (fun i hi => h (i + 1) (by simp at hi ⊢; omega))
    have h0 : R a b := h 0 (by simp)
    refine List.pairwise_cons.2 ⟨fun x hx => ?_, h1⟩
    rcases List.mem_cons.1 hx with rfl | hx
    · exact h0
    · exact ht h0 ((List.pairwise_cons.1 h1).1 x hx)
theorem pair_adj {α : Type} {R : α → α → Prop} {l : List α} (h : l.Pairwise R) (i : Nat) (hi : i + 1 < l.length) : R (l[i]'(by omega)) l[i + 1] := List.pairwise_iff_getElem.1 h i (i + 1) (by omega) hi (by omega)
/-! ### the parts -/
def rdPair : Rdr api_Pair := rd2 (fun k v => (⟨k, v⟩ : api_Pair)) (rbytes 8) (rbytes 16)
def rdPair1 : Rdr api_Pair := rd2 (fun k v => (⟨k, v⟩ : api_Pair)) (rbytes1 8) (rbytes1 16)
def mkLast (s : Int) (p : Int × Int × Int × List UInt8) : api_Last := ⟨s, p.1, ⟨p.2.1, p.2.2.2, w64 (p.2.2.1 - 1)⟩⟩
def rdLast : Rdr api_Last := rd2 mkLast (rnum gig) (rd2 Prod.mk (rnum gig) (rd2 Prod.mk (rnum 10) (rd2 Prod.mk (rnum 1073741825) (rbytes 16))))
def rdLast1 : Rdr api_Last := rd2 mkLast (rnum1 gig) (rd2 Prod.mk (rnum1 gig) (rd2 Prod.mk (rnum1 10) (rd2 Prod.mk (rnum1 1073741825) (rbytes1 16))))
def mkObj (r : List UInt8) (p : List (List UInt8) × List Int × List api_Pair) : api_Objects := ⟨r, p.1, p.2.1, p.2.2⟩
def rdObj : Rdr api_Objects := rd2 mkObj (rbytes 16) (rd2 Prod.mk (rdRow (rnum 8) (rbytes 16)) (rd2 Prod.mk (rdRow (rnum 5) (rnum 999)) (rdRow (rnum 8) rdPair)))
def rdObj1 : Rdr api_Objects := rd2 mkObj (rbytes1 16) (rd2 Prod.mk (rdRow (rnum1 8) (rbytes1 16)) (rd2 Prod.mk (rdRow (rnum1 5) (rnum1 999)) (rdRow (rnum1 8) rdPair1)))
def rdMa : Rdr api_Machine := rd2 (fun o t => (⟨o, t⟩ : api_Machine)) rdObj (rdRow (rnum 8) rdLast)
def rdMa1 : Rdr api_Machine := rd2 (fun o t => (⟨o, t⟩ : api_Machine)) rdObj1 (rdRow (rnum1 8) rdLast1)
theorem shr_pair : Shr rdPair := shr_rd2 _ (shr_bytes 8) (shr_bytes 16)
theorem shr_last : Shr rdLast := shr_rd2 _ (shr_num _) (shr_rd2 _ (shr_num _) (shr_rd2 _ (shr_num _) (shr_rd2 _ (shr_num _) (shr_bytes 16))))
/-! ### what may stand there -/
def OkPair (p : api_Pair) : Prop := p.Key.length ≤ 8 ∧ p.Val.length ≤ 16
def OkLast (l : api_Last) : Prop := (0 ≤ l.Sess ∧ l.Sess ≤ gig) ∧ (0 ≤ l.Seq ∧ l.Seq ≤ gig) ∧ (0 ≤ l.Result.Err ∧ l.Result.Err ≤ 10) ∧ (-1 ≤ l.Result.N ∧ l.Result.N ≤ 1073741824) ∧ l.Result.Val.length ≤ 16
def OkObj (o : api_Objects) : Prop := o.Reg.length ≤ 16 ∧ ((o.Queue.length : Int) ≤ 8 ∧ ∀ x ∈ o.Queue, x.length ≤ 16) ∧ ((o.Lock.length : Int) ≤ 5 ∧ ∀ x ∈ o.Lock, 0 ≤ x ∧ x ≤ 999) ∧ ((o.Map.length : Int) ≤ 8 ∧ ∀ x ∈ o.Map, OkPair x)
def OkRd (m : api_Machine) : Prop := OkObj m.Objects ∧ ((m.Table.length : Int) ≤ 8 ∧ ∀ x ∈ m.Table, OkLast x)
theorem h8 : held2 8 = 8 := by decide
theorem h16 : held2 16 = 16 := by decide
theorem wr_pair : WR rdPair pairW OkPair := wr_rd2 pairW OkPair wr_bytes wr_bytes (fun _ _ _ _ => rfl) (fun x y hx hy => ⟨by rw [h8] at hx; exact hx, by rw [h16] at hy; exact hy⟩) (fun z hz => ⟨z.Key, z.Val, rfl, by rw [h8]; exact hz.1, by rw [h16]; exact hz.2⟩)
theorem wr_last : WR rdLast lastW OkLast := by
  have g : (0 : Int) ≤ gig ∧ gig ≤ 4611686018427387904 := by decide
  have w1 := wr_rd2 (f := Prod.mk) (fun p : Int × List UInt8 => numW p.1 ++ bytesW p.2) (fun p => (0 ≤ p.1 ∧ p.1 ≤ 1073741825) ∧ p.2.length ≤ 16) (wr_num (top := 1073741825) (by decide)) (wr_bytes (top := 16)) (fun _ _ _ _ => rfl) (fun x y hx hy => ⟨hx, by rw [h16] at hy; exact hy⟩) (fun z hz => ⟨z.1, z.2, rfl, hz.1, by rw [h16]; exact hz.2⟩)
  have w2 := wr_rd2 (f := Prod.mk) (fun p : Int × Int × List UInt8 => numW p.1 ++ (numW p.2.1 ++ bytesW p.2.2)) (fun p => (0 ≤ p.1 ∧ p.1 ≤ 10) ∧ (0 ≤ p.2.1 ∧ p.2.1 ≤ 1073741825) ∧ p.2.2.length ≤ 16) (wr_num (top := 10) (by decide)) w1 (fun _ _ _ _ => rfl) (fun x y hx hy => ⟨hx, hy⟩) (fun z hz => ⟨z.1, z.2, rfl, hz.1, hz.2⟩)
  have w3 := wr_rd2 (f := Prod.mk) (fun p : Int × Int × Int × List UInt8 => numW p.1 ++ (numW p.2.1 ++ (numW p.2.2.1 ++ bytesW p.2.2.2))) (fun p => (0 ≤ p.1 ∧ p.1 ≤ gig) ∧ (0 ≤ p.2.1 ∧ p.2.1 ≤ 10) ∧ (0 ≤ p.2.2.1 ∧ p.2.2.1 ≤ 1073741825) ∧ p.2.2.2.length ≤ 16) (wr_num g) w2 (fun _ _ _ _ => rfl) (fun x y hx hy => ⟨hx, hy⟩) (fun z hz => ⟨z.1, z.2, rfl, hz.1, hz.2⟩)
  refine wr_rd2 lastW OkLast (wr_num g) w3 (fun x y hx hy => ?_) (fun x y hx hy => ?_) (fun z hz => ?_)
  · obtain ⟨_, _, h3, _⟩ := hy
    have e : w64 (w64 (y.2.2.1 - 1) + 1) = y.2.2.1 := by rw [w64_id (n := y.2.2.1 - 1) (by omega), w64_id (by omega)]; omega
    unfold lastW mkLast
    dsimp only
    rw [e]
  · obtain ⟨h1, h2, h3, h4⟩ := hy
    unfold OkLast mkLast
    dsimp only
    rw [w64_id (n := y.2.2.1 - 1) (by omega)]
    exact ⟨hx, h1, h2, by omega, h4⟩
  · obtain ⟨h1, h2, h3, h4, h5⟩ := hz
    refine ⟨z.Sess, (z.Seq, z.Result.Err, z.Result.N + 1, z.Result.Val), ?_, h1, h2, h3, by simp only; omega, h5⟩
    unfold mkLast
    dsimp only
    rw [show z.Result.N + 1 - 1 = z.Result.N by omega, w64_id (by omega)]
def objW (o : api_Objects) : List UInt8 := bytesW o.Reg ++ (rowW bytesW o.Queue ++ (rowW numW o.Lock ++ rowW pairW o.Map))
theorem wr_obj : WR rdObj objW OkObj := by
  have r1 := wr_row (top := 8) (by decide) shr_pair wr_pair
  have r2 := wr_row (top := 5) (by decide) (shr_num 999) (wr_num (top := 999) (by decide))
  have r3 := wr_row (top := 8) (by decide) (shr_bytes 16) (wr_bytes (top := 16))
  have w1 := wr_rd2 (f := Prod.mk) (fun p : List Int × List api_Pair => rowW numW p.1 ++ rowW pairW p.2) (fun p => ((p.1.length : Int) ≤ 5 ∧ ∀ x ∈ p.1, 0 ≤ x ∧ x ≤ 999) ∧ ((p.2.length : Int) ≤ 8 ∧ ∀ x ∈ p.2, OkPair x)) r2 r1 (fun _ _ _ _ => rfl) (fun x y hx hy => ⟨hx, hy⟩) (fun z hz => ⟨z.1, z.2, rfl, hz.1, hz.2⟩)
  have w2 := wr_rd2 (f := Prod.mk) (fun p : List (List UInt8) × List Int × List api_Pair => rowW bytesW p.1 ++ (rowW numW p.2.1 ++ rowW pairW p.2.2)) (fun p => ((p.1.length : Int) ≤ 8 ∧ ∀ x ∈ p.1, x.length ≤ 16) ∧ ((p.2.1.length : Int) ≤ 5 ∧ ∀ x ∈ p.2.1, 0 ≤ x ∧ x ≤ 999) ∧ ((p.2.2.length : Int) ≤ 8 ∧ ∀ x ∈ p.2.2, OkPair x)) r3 w1 (fun _ _ _ _ => rfl) (fun x y hx hy => ⟨by rw [h16] at hx; exact hx, hy⟩) (fun z hz => ⟨z.1, z.2, rfl, by rw [h16]; exact hz.1, hz.2⟩)
  exact wr_rd2 objW OkObj (wr_bytes (top := 16)) w2 (fun _ _ _ _ => rfl) (fun x y hx hy => ⟨by rw [h16] at hx; exact hx, hy⟩) (fun z hz => ⟨z.Reg, (z.Queue, z.Lock, z.Map), rfl, by rw [h16]; exact hz.1, hz.2⟩)
theorem wr_ma : WR rdMa machW OkRd := wr_rd2 machW OkRd wr_obj (wr_row (top := 8) (by decide) shr_last wr_last) (fun o t _ _ => by unfold machW objW; simp only [List.append_assoc]) (fun _ _ hx hy => ⟨hx, hy⟩) (fun z hz => ⟨z.Objects, z.Table, rfl, hz.1, hz.2⟩)
/-- A machine that may be. -/
def RightM (m : api_Machine) : Prop := m.Objects.Lock.Nodup ∧ (∀ l ∈ m.Table, 1 ≤ l.Sess ∧ 1 ≤ l.Seq) ∧ m.Objects.Map.Pairwise (fun a b => slt a.Key b.Key = true) ∧ m.Table.Pairwise (fun a b => a.Sess < b.Sess)
instance (m : api_Machine) : Decidable (RightM m) := by unfold RightM; infer_instance
def zmach : api_Machine := ⟨(⟨([] : List UInt8), ([] : List (List UInt8)), ([] : List Int), ([] : List api_Pair)⟩ : api_Objects), ([] : List api_Last)⟩
def decMa (b : List UInt8) : api_Machine × Bool := if (rdMa b false).2.2 = false ∧ (rdMa b false).2.1 = [] ∧ RightM (rdMa b false).1 then ((rdMa b false).1, true) else (zmach, false)
theorem decMa_wire {m : api_Machine} (h : OkRd m) (hr : RightM m) : decMa (machW m) = (m, true) := by
  have e := wr_ma.enc [] h
  rw [List.append_nil] at e
  unfold decMa
  rw [e]
  exact if_pos ⟨rfl, rfl, hr⟩
theorem decMa_ok {b : List UInt8} (h : (decMa b).2 = true) : OkRd (decMa b).1 ∧ RightM (decMa b).1 ∧ b = machW (decMa b).1 := by
  unfold decMa at h ⊢
  split
  · rename_i g
    obtain ⟨_, g2, g3⟩ := wr_ma.ok g.1
    rw [g.2.1, List.append_nil] at g3
    exact ⟨g2, g.2.2, g3⟩
  · rename_i g; rw [if_neg g] at h; cases h
theorem okRd_small {m : api_Machine} (h : OkRd m) : SmallM m := by
  obtain ⟨⟨h1, ⟨h2, h3⟩, ⟨h4, _⟩, h5, h6⟩, h7, h8⟩ := h
  refine ⟨by omega, ⟨by omega, fun x hx => ?_⟩, by omega, ⟨by omega, fun x hx => ?_⟩, ⟨by omega, fun x hx => ?_⟩⟩
  · have := h3 x hx; omega
  · obtain ⟨a, b⟩ := h6 x hx; omega
  · obtain ⟨_, _, _, _, a⟩ := h8 x hx; omega
end Go.Gp
