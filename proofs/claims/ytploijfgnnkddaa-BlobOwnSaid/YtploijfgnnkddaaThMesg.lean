/- What the statements say, of the plain functions. -/
import Derived.Test.YtploijfgnnkddaaDefs
import Derived.Test.YtploijfgnnkddaaLe
import Derived.Test.YtploijfgnnkddaaThInts
import Derived.Test.YtploijfgnnkddaaThPack
/- Messages: how they are told in bytes. -/
namespace Go.Gp
open Go
/-! ### reading, when all went well -/
theorem rnum_ok {top : Int} {b : List UInt8} {bad : Bool} (h : (rnum top b bad).2.2 = false) : bad = false ∧ ∃ n : Nat, (rnum top b bad).1 = n ∧ n ≤ held2 top ∧ b = enc n ++ (rnum top b bad).2.1 := by
  unfold rnum at h ⊢
  cases hr : rd top b with
  | none => rw [hr] at h; cases h
  | some p =>
    rw [hr] at h
    obtain ⟨h1, h2⟩ := rd_some (n := p.1) (r := p.2) hr
    exact ⟨h, p.1, rfl, h1, h2⟩
theorem rnum_enc {m : Nat} {top : Int} {rest : List UInt8} (hm : m ≤ held2 top) : rnum top (enc m ++ rest) false = ((m : Int), rest, false) := by
  unfold rnum
  rw [rd_enc hm]
theorem rbytes_ok {top : Int} {b : List UInt8} {bad : Bool} (h : (rbytes top b bad).2.2 = false) : bad = false ∧ (rbytes top b bad).1.length ≤ held2 top ∧ b = enc (rbytes top b bad).1.length ++ ((rbytes top b bad).1 ++ (rbytes top b bad).2.1) := by
  unfold rbytes at h ⊢
  cases hr : rdB top b with
  | none => rw [hr] at h; cases h
  | some p =>
    rw [hr] at h
    obtain ⟨h1, h2⟩ := rdB_some (x := p.1) (r := p.2) hr
    exact ⟨h, h1, h2⟩
theorem rbytes_enc {x : List UInt8} {top : Int} {rest : List UInt8} (h : x.length ≤ held2 top) : rbytes top (enc x.length ++ (x ++ rest)) false = (x, rest, false) := by
  unfold rbytes
  rw [rdB_enc h]
/-! ### rows of numbers -/
def numsL (l : List Int) : List UInt8 := (l.map fun n => enc (held2 n)).flatten
theorem numsL_cons (n : Int) (l : List Int) : numsL (n :: l) = enc (held2 n) ++ numsL l := rfl
theorem numsL_nil : numsL [] = [] := rfl
theorem numsL_snoc (l : List Int) (n : Int) : numsL (l ++ [n]) = numsL l ++ enc (held2 n) := by unfold numsL; simp
theorem numsL_len (l : List Int) : (numsL l).length ≤ 9 * l.length := by
  induction l with
  | nil => simp [numsL_nil]
  | cons n l ih => rw [numsL_cons, List.length_append, List.length_cons]; have := enc_held n; omega
/-! ### entries -/
def cmdW (c : api_Cmd) : List UInt8 := enc c.Key.length ++ (c.Key ++ (enc c.Val.length ++ (c.Val ++ (enc c.Old.length ++ c.Old))))
def entW (e : api_Entry) : List UInt8 := numsL [e.Sess, e.Seq, e.Cmd.Kind, e.Cmd.Who] ++ cmdW e.Cmd
def bytesL (l : List (List UInt8)) : List UInt8 := (l.map fun x => enc x.length ++ x).flatten
theorem bytesL_snoc (l : List (List UInt8)) (x : List UInt8) : bytesL (l ++ [x]) = bytesL l ++ enc x.length ++ x := by unfold bytesL; simp
theorem bytesL_len {l : List (List UInt8)} (h : ∀ x ∈ l, x.length ≤ 10000000) : (bytesL l).length ≤ 10000009 * l.length := by
  induction l with
  | nil => simp [bytesL]
  | cons x l ih =>
    have h1 := h x (by simp)
    have h2 := ih (fun y hy => h y (List.mem_cons_of_mem _ hy))
    have h3 := enc_len9 (n := x.length) (by omega)
    have e : bytesL (x :: l) = enc x.length ++ x ++ bytesL l := rfl
    rw [e, List.length_append, List.length_append, List.length_cons]
    omega
theorem putEntry_eq {e : api_Entry} (h1 : e.Cmd.Key.length ≤ 10000000) (h2 : e.Cmd.Val.length ≤ 10000000) (h3 : e.Cmd.Old.length ≤ 10000000) {b : List UInt8} (hb : b.length ≤ 10000000) : mach_PutEntry.f 2000000 b e = some (b ++ entW e) := by
  suffices h : Sat (mach_PutEntry.f 2000000 b e) (fun r => r = b ++ entW e) by
    obtain ⟨r, h1, h2⟩ := h; rw [h1, h2]
  unfold mach_PutEntry.f
  obtain ⟨l, hl⟩ : ∃ l : List Int, l = [e.Sess, e.Seq, e.Cmd.Kind, e.Cmd.Who] := ⟨_, rfl⟩
  obtain ⟨q, hq⟩ : ∃ q : List (List UInt8), q = [e.Cmd.Key, e.Cmd.Val, e.Cmd.Old] := ⟨_, rfl⟩
  have hl4 : l.length = 4 := by rw [hl]; rfl
  have hq3 : q.length = 3 := by rw [hq]; rfl
  have hqs : ∀ x ∈ q, x.length ≤ 10000000 := fun x hx => by
    rw [hq] at hx
    simp only [List.mem_cons, List.not_mem_nil, or_false] at hx
    rcases hx with rfl | rfl | rfl <;> assumption
  rw [← hl]
  refine sat_b (ix_get (by omega) (by simp; omega)) (sat_b (num_eq (by decide) (by omega) _) ?_)
  have ht1 : l.take 1 = [l[Int.toNat 0]'(by simp; omega)] := by
    match l, hl4 with
    | [_, _, _, _], _ => rfl
  refine sat_loop (fun v : List UInt8 × Int => (4 - v.2).toNat) (fun v => ∃ i : Nat, v.2 = i ∧ i ≤ 4 ∧ v.1 = b ++ numsL (l.take i)) ?_ 2000000 _ ⟨1, rfl, by omega, by rw [ht1]; simp [numsL_nil, numsL_cons]⟩ (by show (4 - w64 (0 + 1)).toNat < 2000000; decide)
  rintro ⟨c, j⟩ ⟨i, g1, g2, g3⟩ ag hag
  simp only at g1 g2 g3
  subst g1 g3
  show Sat (mach_PutEntry.B2 2000000 e _ ag _ i) _
  unfold mach_PutEntry.B2
  rw [← hl, hl4]
  have hn := numsL_len (l.take i)
  have ht : (l.take i).length ≤ 4 := by simp only [List.length_take]; omega
  refine sat_if (fun hlt => ?_) (fun hge => ?_)
  · have hi : i < l.length := by omega
    refine sat_b (ix_get (by omega) (by simpa using hi)) (sat_b (num_eq (by decide) (by simp only [List.length_append]; omega) _) ?_)
    have hw : w64 ((i : Int) + 1) = ((i + 1 : Nat) : Int) := by rw [w64_succ (by omega) (by omega)]; simp
    rw [hw]
    refine hag _ ⟨i + 1, rfl, by omega, ?_⟩ (by simp only; omega)
    simp only [Int.toNat_natCast]
    rw [← List.take_append_getElem (l := l) (i := i) hi, numsL_snoc, List.append_assoc]
  · have : i = 4 := by omega
    subst this
    rw [List.take_of_length_le (by omega)] at hn ⊢
    show Sat (mach_PutEntry.J1 2000000 e _) _
    unfold mach_PutEntry.J1
    refine sat_loop (fun v : List UInt8 × Int => (3 - v.2).toNat) (fun v => ∃ i : Nat, v.2 = i ∧ i ≤ 3 ∧ v.1 = b ++ numsL l ++ bytesL (q.take i)) ?_ 2000000 _ ⟨0, rfl, by omega, by simp [bytesL]⟩ (by simp only; omega)
    rintro ⟨c, j⟩ ⟨i, g1, g2, g3⟩ ag2 hag2
    simp only at g1 g2 g3
    subst g1 g3
    show Sat (mach_PutEntry.B1 2000000 e _ ag2 _ i) _
    unfold mach_PutEntry.B1
    rw [← hq, hq3]
    have hm := bytesL_len (l := q.take i) (fun x hx => hqs x (List.mem_of_mem_take hx))
    have ht3 : (q.take i).length ≤ 3 := by simp only [List.length_take]; omega
    refine sat_if (fun hlt => ?_) (fun hge2 => ?_)
    · have hi : i < q.length := by omega
      have hx := hqs q[i] (List.getElem_mem _)
      refine sat_b (ix_get (by omega) (by simpa using hi)) (sat_b (bytes_eq (by decide) (by simp only [List.length_append]; omega) (by simp only [Int.toNat_natCast]; omega)) ?_)
      have hw : w64 ((i : Int) + 1) = ((i + 1 : Nat) : Int) := by rw [w64_succ (by omega) (by omega)]; simp
      rw [hw]
      refine hag2 _ ⟨i + 1, rfl, by omega, ?_⟩ (by simp only; omega)
      simp only [Int.toNat_natCast]
      rw [← List.take_append_getElem (l := q) (i := i) hi, bytesL_snoc]
      simp
    · have : i = 3 := by omega
      subst this
      rw [List.take_of_length_le (by omega)]
      show Sat (mach_PutEntry.J2 2000000 _) _
      unfold mach_PutEntry.J2
      refine sat_r ?_
      rw [hl, hq]
      unfold entW cmdW bytesL
      simp
/-! ### messages in bytes -/
def flagI (b : Bool) : Int := if b = true then 1 else 0
def tailW (m : api_Msg) : List UInt8 :=
  if m.Kind = 2 then numsL [m.Inst, m.Len, flagI m.Has]
  else if m.Kind = 3 then numsL [m.Members, m.Source, m.Len]
  else if m.Kind = 4 then numsL [m.At]
  else if m.Kind = 5 then numsL [m.At, m.Total] ++ (enc m.Data.length ++ m.Data)
  else if m.Kind = 7 then numsL [m.Hop, m.Seq] ++ ((enc m.Have.length ++ numsL m.Have) ++ (enc m.Need.length ++ numsL m.Need))
  else if m.Kind = 8 then numsL [m.Index] ++ entW m.Entry
  else []
def wire (m : api_Msg) : List UInt8 := numsL [m.Kind, m.From, m.To, m.View] ++ tailW m
/-! ### rows of numbers, read -/
def far : Int := 1099511627776
def rnums : Nat → List UInt8 → Bool → List Int × List UInt8 × Bool
  | 0, b, bad => ([], b, bad)
  | k + 1, b, bad => ((rnum far b bad).1 :: (rnums k (rnum far b bad).2.1 (rnum far b bad).2.2).1, (rnums k (rnum far b bad).2.1 (rnum far b bad).2.2).2)
theorem rnum_shrinks (top : Int) (b : List UInt8) (bad : Bool) : (rnum top b bad).2.1.length ≤ b.length := by
  unfold rnum
  cases hr : rd top b with
  | none => simp
  | some p => have := rd_len (n := p.1) (r := p.2) hr; simp only; omega
theorem rnum_range (top : Int) (b : List UInt8) (bad : Bool) : 0 ≤ (rnum top b bad).1 ∧ (rnum top b bad).1 ≤ held2 top := by
  unfold rnum
  cases hr : rd top b with
  | none => simp
  | some p => obtain ⟨h1, _⟩ := rd_some (n := p.1) (r := p.2) hr; simp only; omega
end Go.Gp
