/- What the statements say, of the plain functions. -/
import Derived.Test.YtploijfgnnkddaaGreatDefs
import Derived.Test.YtploijfgnnkddaaGreatLe
import Derived.Test.YtploijfgnnkddaaGreatThInts
import Derived.Test.YtploijfgnnkddaaGreatThPack
/- Messages: how they are told in bytes. -/
namespace Go.Gp
open Go
theorem rnum_ok {top : Int} {b : List UInt8} {bad : Bool} (h : (rnum top b bad).2.2 = false) : bad = false ∧ ∃ n : Nat, (rnum top b bad).1 = n ∧ n ≤ held2 top ∧ b = enc n ++ (rnum top b bad).2.1 := by
  unfold rnum at h ⊢
  cases hr : rd top b with
  | none => rw [hr] at h; cases h
  | some p =>
    rw [hr] at h
    obtain ⟨h1, h2⟩ := rd_some (n := p.1) (r := p.2) hr
    exact ⟨h, p.1, rfl, h1, h2⟩
theorem rnum_enc {m : Nat} {top : Int} {rest : List UInt8} (hm : m ≤ held2 top) : rnum top (enc m ++ rest) false = ((m : Int), rest, false) := by
  unfold rnum
  rw [rd_enc hm]
theorem rbytes_ok {top : Int} {b : List UInt8} {bad : Bool} (h : (rbytes top b bad).2.2 = false) : bad = false ∧ (rbytes top b bad).1.length ≤ held2 top ∧ b = enc (rbytes top b bad).1.length ++ ((rbytes top b bad).1 ++ (rbytes top b bad).2.1) := by
  unfold rbytes at h ⊢
  cases hr : rdB top b with
  | none => rw [hr] at h; cases h
  | some p =>
    rw [hr] at h
    obtain ⟨h1, h2⟩ := rdB_some (x := p.1) (r := p.2) hr
    exact ⟨h, h1, h2⟩
theorem rbytes_enc {x : List UInt8} {top : Int} {rest : List UInt8} (h : x.length ≤ held2 top) : rbytes top (enc x.length ++ (x ++ rest)) false = (x, rest, false) := by
  unfold rbytes
  rw [rdB_enc h]
def numsL (l : List Int) : List UInt8 := (l.map fun n => enc (held2 n)).flatten
theorem numsL_cons (n : Int) (l : List Int) : numsL (n :: l) = enc (held2 n) ++ numsL l := rfl
theorem numsL_nil : numsL [] = [] := rfl
theorem numsL_snoc (l : List Int) (n : Int) : numsL (l ++ [n]) = numsL l ++ enc (held2 n) := by unfold numsL; simp
theorem numsL_len (l : List Int) : (numsL l).length ≤ 9 * l.length := by
  induction l with
  | nil => simp [numsL_nil]
  | cons n l ih => rw [numsL_cons, List.length_append, List.length_cons]; have := enc_held n; omega
theorem write1_eq {l : List Int} (hl : l.length < 90) {b : List UInt8} (hb : b.length ≤ 10000000) : mesg_write_1.f 2000000 l b = some (b ++ numsL l) := by
  suffices h : Sat (mesg_write_1.f 2000000 l b) (fun r => r = b ++ numsL l) by
    obtain ⟨r, h1, h2⟩ := h; rw [h1, h2]
  unfold mesg_write_1.f
  refine sat_loop (fun v : Int × List UInt8 => ((l.length : Int) - v.1).toNat) (fun v => ∃ i : Nat, v.1 = i ∧ i ≤ l.length ∧ v.2 = b ++ numsL (l.take i)) ?_ 2000000 _ ⟨0, rfl, by omega, by simp [numsL_nil]⟩ (by simp only; omega)
  rintro ⟨j, c⟩ ⟨i, h1, h2, h3⟩ ag hag
  simp only at h1 h2 h3
  subst h1 h3
  show Sat (mesg_write_1.B1 2000000 l _ ag i _) _
  unfold mesg_write_1.B1
  have hn := numsL_len (l.take i)
  have ht : (l.take i).length ≤ 90 := by simp only [List.length_take]; omega
  refine sat_if (fun hlt => ?_) (fun hge => ?_)
  · have hi : i < l.length := by omega
    refine sat_b (ix_get (by omega) (by simpa using hi)) (sat_b (num_eq (by decide) (by simp only [List.length_append]; omega) _) ?_)
    have hw : w64 ((i : Int) + 1) = ((i + 1 : Nat) : Int) := by rw [w64_succ (by omega) (by omega)]; simp
    rw [hw]
    refine hag _ ⟨i + 1, rfl, by omega, ?_⟩ (by simp only; omega)
    simp only [Int.toNat_natCast]
    rw [← List.take_append_getElem (l := l) (i := i) hi, numsL_snoc, List.append_assoc]
  · have : i = l.length := by omega
    subst this
    rw [List.take_length]
    exact sat_r rfl
theorem row_eq {l : List Int} (hl : l.length < 90) {b : List UInt8} (hb : b.length ≤ 10000000) : mesg_row.f 2000000 b l = some (b ++ (enc l.length ++ numsL l)) := by
  suffices h : Sat (mesg_row.f 2000000 b l) (fun r => r = b ++ (enc l.length ++ numsL l)) by
    obtain ⟨r, h1, h2⟩ := h; rw [h1, h2]
  unfold mesg_row.f
  have e : held2 (l.length : Int) = l.length := held2_nat _ (by omega)
  have he := enc_held (l.length : Int)
  rw [e] at he
  refine sat_b (num_eq (by decide) (by omega) _) ?_
  rw [e]
  refine sat_loop (fun v : List UInt8 × Int => ((l.length : Int) - v.2).toNat) (fun v => ∃ i : Nat, v.2 = i ∧ i ≤ l.length ∧ v.1 = b ++ (enc l.length ++ numsL (l.take i))) ?_ 2000000 _ ⟨0, rfl, by omega, by simp [numsL_nil]⟩ (by simp only; omega)
  rintro ⟨c, j⟩ ⟨i, h1, h2, h3⟩ ag hag
  simp only at h1 h2 h3
  subst h1 h3
  show Sat (mesg_row.B1 2000000 l _ ag _ i) _
  unfold mesg_row.B1
  have hn := numsL_len (l.take i)
  have ht : (l.take i).length ≤ 90 := by simp only [List.length_take]; omega
  refine sat_if (fun hlt => ?_) (fun hge => ?_)
  · have hi : i < l.length := by omega
    refine sat_b (ix_get (by omega) (by simpa using hi)) (sat_b (num_eq (by decide) (by simp only [List.length_append]; omega) _) ?_)
    have hw : w64 ((i : Int) + 1) = ((i + 1 : Nat) : Int) := by rw [w64_succ (by omega) (by omega)]; simp
    rw [hw]
    refine hag _ ⟨i + 1, rfl, by omega, ?_⟩ (by simp only; omega)
    simp only [Int.toNat_natCast]
    rw [← List.take_append_getElem (l := l) (i := i) hi, numsL_snoc]
    simp
  · have : i = l.length := by omega
    subst this
    rw [List.take_length]
    exact sat_r rfl
def cmdW (c : api_Cmd) : List UInt8 := enc c.Key.length ++ (c.Key ++ (enc c.Val.length ++ (c.Val ++ (enc c.Old.length ++ c.Old))))
def entW (e : api_Entry) : List UInt8 := numsL [e.Sess, e.Seq, e.Cmd.Kind, e.Cmd.Who] ++ cmdW e.Cmd
def bytesL (l : List (List UInt8)) : List UInt8 := (l.map fun x => enc x.length ++ x).flatten
theorem bytesL_snoc (l : List (List UInt8)) (x : List UInt8) : bytesL (l ++ [x]) = bytesL l ++ enc x.length ++ x := by unfold bytesL; simp
theorem bytesL_len {l : List (List UInt8)} (h : ∀ x ∈ l, x.length ≤ 10000000) : (bytesL l).length ≤ 10000009 * l.length := by
  induction l with
  | nil => simp [bytesL]
  | cons x l ih =>
    have h1 := h x (by simp)
    have h2 := ih (fun y hy => h y (List.mem_cons_of_mem _ hy))
    have h3 := enc_len9 (n := x.length) (by omega)
    have e : bytesL (x :: l) = enc x.length ++ x ++ bytesL l := rfl
    rw [e, List.length_append, List.length_append, List.length_cons]
    omega
theorem putEntry_eq {e : api_Entry} (h1 : e.Cmd.Key.length ≤ 10000000) (h2 : e.Cmd.Val.length ≤ 10000000) (h3 : e.Cmd.Old.length ≤ 10000000) {b : List UInt8} (hb : b.length ≤ 10000000) : mach_PutEntry.f 2000000 b e = some (b ++ entW e) := by
  suffices h : Sat (mach_PutEntry.f 2000000 b e) (fun r => r = b ++ entW e) by
    obtain ⟨r, h1, h2⟩ := h; rw [h1, h2]
  unfold mach_PutEntry.f
  obtain ⟨l, hl⟩ : ∃ l : List Int, l = [e.Sess, e.Seq, e.Cmd.Kind, e.Cmd.Who] := ⟨_, rfl⟩
  obtain ⟨q, hq⟩ : ∃ q : List (List UInt8), q = [e.Cmd.Key, e.Cmd.Val, e.Cmd.Old] := ⟨_, rfl⟩
  have hl4 : l.length = 4 := by rw [hl]; rfl
  have hq3 : q.length = 3 := by rw [hq]; rfl
  have hqs : ∀ x ∈ q, x.length ≤ 10000000 := fun x hx => by
    rw [hq] at hx
    simp only [List.mem_cons, List.not_mem_nil, or_false] at hx
    rcases hx with rfl | rfl | rfl <;> assumption
  rw [← hl]
  refine sat_b (ix_get (by omega) (by simp; omega)) (sat_b (num_eq (by decide) (by omega) _) ?_)
  have ht1 : l.take 1 = [l[Int.toNat 0]'(by simp; omega)] := by
    match l, hl4 with
    | [_, _, _, _], _ => rfl
  refine sat_loop (fun v : List UInt8 × Int => (4 - v.2).toNat) (fun v => ∃ i : Nat, v.2 = i ∧ i ≤ 4 ∧ v.1 = b ++ numsL (l.take i)) ?_ 2000000 _ ⟨1, rfl, by omega, by rw [ht1]; simp [numsL_nil, numsL_cons]⟩ (by show (4 - w64 (0 + 1)).toNat < 2000000; decide)
  rintro ⟨c, j⟩ ⟨i, g1, g2, g3⟩ ag hag
  simp only at g1 g2 g3
  subst g1 g3
  show Sat (mach_PutEntry.B2 2000000 e _ ag _ i) _
  unfold mach_PutEntry.B2
  rw [← hl, hl4]
  have hn := numsL_len (l.take i)
  have ht : (l.take i).length ≤ 4 := by simp only [List.length_take]; omega
  refine sat_if (fun hlt => ?_) (fun hge => ?_)
  · have hi : i < l.length := by omega
    refine sat_b (ix_get (by omega) (by simpa using hi)) (sat_b (num_eq (by decide) (by simp only [List.length_append]; omega) _) ?_)
    have hw : w64 ((i : Int) + 1) = ((i + 1 : Nat) : Int) := by rw [w64_succ (by omega) (by omega)]; simp
    rw [hw]
    refine hag _ ⟨i + 1, rfl, by omega, ?_⟩ (by simp only; omega)
    simp only [Int.toNat_natCast]
    rw [← List.take_append_getElem (l := l) (i := i) hi, numsL_snoc, List.append_assoc]
  · have : i = 4 := by omega
    subst this
    rw [List.take_of_length_le (by omega)] at hn ⊢
    show Sat (mach_PutEntry.J1 2000000 e _) _
    unfold mach_PutEntry.J1
    refine sat_loop (fun v : List UInt8 × Int => (3 - v.2).toNat) (fun v => ∃ i : Nat, v.2 = i ∧ i ≤ 3 ∧ v.1 = b ++ numsL l ++ bytesL (q.take i)) ?_ 2000000 _ ⟨0, rfl, by omega, by simp [bytesL]⟩ (by simp only; omega)
    rintro ⟨c, j⟩ ⟨i, g1, g2, g3⟩ ag2 hag2
    simp only at g1 g2 g3
    subst g1 g3
    show Sat (mach_PutEntry.B1 2000000 e _ ag2 _ i) _
    unfold mach_PutEntry.B1
    rw [← hq, hq3]
    have hm := bytesL_len (l := q.take i) (fun x hx => hqs x (List.mem_of_mem_take hx))
    have ht3 : (q.take i).length ≤ 3 := by simp only [List.length_take]; omega
    refine sat_if (fun hlt => ?_) (fun hge2 => ?_)
    · have hi : i < q.length := by omega
      have hx := hqs q[i] (List.getElem_mem _)
      refine sat_b (ix_get (by omega) (by simpa using hi)) (sat_b (bytes_eq (by decide) (by simp only [List.length_append]; omega) (by simp only [Int.toNat_natCast]; omega)) ?_)
      have hw : w64 ((i : Int) + 1) = ((i + 1 : Nat) : Int) := by rw [w64_succ (by omega) (by omega)]; simp
      rw [hw]
      refine hag2 _ ⟨i + 1, rfl, by omega, ?_⟩ (by simp only; omega)
      simp only [Int.toNat_natCast]
      rw [← List.take_append_getElem (l := q) (i := i) hi, bytesL_snoc]
      simp
    · have : i = 3 := by omega
      subst this
      rw [List.take_of_length_le (by omega)]
      show Sat (mach_PutEntry.J2 2000000 _) _
      unfold mach_PutEntry.J2
      refine sat_r ?_
      rw [hl, hq]
      unfold entW cmdW bytesL
      simp
def flagI (b : Bool) : Int := if b = true then 1 else 0
def tailW (m : api_Msg) : List UInt8 :=
  if m.Kind = 2 then numsL [m.Inst, m.Len, flagI m.Has]
  else if m.Kind = 3 then numsL [m.Members, m.Source, m.Len]
  else if m.Kind = 4 then numsL [m.At]
  else if m.Kind = 5 then numsL [m.At, m.Total] ++ (enc m.Data.length ++ m.Data)
  else if m.Kind = 7 then numsL [m.Hop, m.Seq] ++ ((enc m.Have.length ++ numsL m.Have) ++ (enc m.Need.length ++ numsL m.Need))
  else if m.Kind = 8 then numsL [m.Index] ++ entW m.Entry
  else []
def wire (m : api_Msg) : List UInt8 := numsL [m.Kind, m.From, m.To, m.View] ++ tailW m
theorem write_eq {m : api_Msg} (hd : m.Kind = 5 → m.Data.length ≤ 64) (hh : m.Kind = 7 → m.Have.length ≤ 7 ∧ m.Need.length ≤ 8) (he : m.Kind = 8 → m.Entry.Cmd.Key.length ≤ 10000000 ∧ m.Entry.Cmd.Val.length ≤ 10000000 ∧ m.Entry.Cmd.Old.length ≤ 10000000) : mesg_write.f 2000000 m = some (wire m) := by
  have l4 := numsL_len [m.Kind, m.From, m.To, m.View]
  simp only [List.length_cons, List.length_nil] at l4
  unfold mesg_write.f wire tailW
  rw [write1_eq (by simp) (by simp)]
  simp only [Option.bind_some, List.nil_append]
  by_cases k2 : m.Kind = 2
  · rw [if_pos k2, if_pos k2]
    have : mesg_flag.f m.Has = some (flagI m.Has) := by unfold mesg_flag.f flagI; cases m.Has <;> rfl
    rw [this]
    simp only [Option.bind_some]
    rw [write1_eq (by simp) (by omega)]
    rfl
  rw [if_neg k2, if_neg k2]
  by_cases k3 : m.Kind = 3
  · rw [if_pos k3, if_pos k3, write1_eq (by simp) (by omega)]
    rfl
  rw [if_neg k3, if_neg k3]
  by_cases k4 : m.Kind = 4
  · rw [if_pos k4, if_pos k4, write1_eq (by simp) (by omega)]
    rfl
  rw [if_neg k4, if_neg k4]
  by_cases k5 : m.Kind = 5
  · have := hd k5
    have l2 := numsL_len [m.At, m.Total]
    simp only [List.length_cons, List.length_nil] at l2
    rw [if_pos k5, if_pos k5, write1_eq (by simp) (by omega)]
    simp only [Option.bind_some]
    rw [bytes_eq (by decide) (by rw [List.length_append]; omega) (by omega)]
    simp
  rw [if_neg k5, if_neg k5]
  by_cases k7 : m.Kind = 7
  · obtain ⟨g1, g2⟩ := hh k7
    have l2 := numsL_len [m.Hop, m.Seq]
    simp only [List.length_cons, List.length_nil] at l2
    have l3 := numsL_len m.Have
    have l5 := enc_len9 (n := m.Have.length) (by omega)
    rw [if_pos k7, if_pos k7, write1_eq (by simp) (by omega)]
    simp only [Option.bind_some]
    rw [row_eq (by omega) (by rw [List.length_append]; omega)]
    simp only [Option.bind_some]
    rw [row_eq (by omega) (by rw [List.length_append, List.length_append, List.length_append]; omega)]
    simp
  rw [if_neg k7, if_neg k7]
  by_cases k8 : m.Kind = 8
  · obtain ⟨g1, g2, g3⟩ := he k8
    have l2 := numsL_len [m.Index]
    simp only [List.length_cons, List.length_nil] at l2
    rw [if_pos k8, if_pos k8, write1_eq (by simp) (by omega)]
    simp only [Option.bind_some]
    rw [putEntry_eq g1 g2 g3 (by rw [List.length_append]; omega)]
    simp
  · rw [if_neg k8, if_neg k8]
    simp
def far : Int := 1099511627776
def rnums : Nat → List UInt8 → Bool → List Int × List UInt8 × Bool
  | 0, b, bad => ([], b, bad)
  | k + 1, b, bad => ((rnum far b bad).1 :: (rnums k (rnum far b bad).2.1 (rnum far b bad).2.2).1, (rnums k (rnum far b bad).2.1 (rnum far b bad).2.2).2)
theorem rnums_succ (k : Nat) (b : List UInt8) (bad : Bool) : rnums (k + 1) b bad = ((rnum far b bad).1 :: (rnums k (rnum far b bad).2.1 (rnum far b bad).2.2).1, (rnums k (rnum far b bad).2.1 (rnum far b bad).2.2).2) := rfl
theorem rnum_shrinks (top : Int) (b : List UInt8) (bad : Bool) : (rnum top b bad).2.1.length ≤ b.length := by
  unfold rnum
  cases hr : rd top b with
  | none => simp
  | some p => have := rd_len (n := p.1) (r := p.2) hr; simp only; omega
theorem rnum_range (top : Int) (b : List UInt8) (bad : Bool) : 0 ≤ (rnum top b bad).1 ∧ (rnum top b bad).1 ≤ held2 top := by
  unfold rnum
  cases hr : rd top b with
  | none => simp
  | some p => obtain ⟨h1, _⟩ := rd_some (n := p.1) (r := p.2) hr; simp only; omega
theorem rnums_len (k : Nat) : ∀ (b : List UInt8) (bad : Bool), (rnums k b bad).1.length = k ∧ (rnums k b bad).2.1.length ≤ b.length := by
  induction k with
  | zero => intro b bad; exact ⟨rfl, Nat.le_refl _⟩
  | succ k ih =>
    intro b bad
    obtain ⟨h1, h2⟩ := ih (rnum far b bad).2.1 (rnum far b bad).2.2
    have h3 := rnum_shrinks far b bad
    rw [rnums_succ]
    exact ⟨by simp [h1], by simp only; omega⟩
theorem rnums_ok (k : Nat) : ∀ (b : List UInt8) (bad : Bool), (rnums k b bad).2.2 = false → bad = false ∧ (∀ x ∈ (rnums k b bad).1, 0 ≤ x ∧ x ≤ far) ∧ b = numsL (rnums k b bad).1 ++ (rnums k b bad).2.1 := by
  induction k with
  | zero => intro b bad h; exact ⟨h, by simp [rnums], by simp [rnums, numsL_nil]⟩
  | succ k ih =>
    intro b bad h
    rw [rnums_succ] at h ⊢
    obtain ⟨h1, h2, h3⟩ := ih _ _ h
    obtain ⟨g1, n, g2, g3, g4⟩ := rnum_ok h1
    have hf : held2 far = 1099511627776 := by decide
    refine ⟨g1, fun x hx => ?_, ?_⟩
    · simp only [List.mem_cons] at hx
      rcases hx with rfl | hx
      · rw [g2]; unfold far; omega
      · exact h2 x hx
    · simp only
      rw [numsL_cons, g2, held2_nat n (by omega), List.append_assoc, ← h3]
      exact g4
theorem rnums_enc {l : List Int} (h : ∀ x ∈ l, 0 ≤ x ∧ x ≤ far) : ∀ rest : List UInt8, rnums l.length (numsL l ++ rest) false = (l, rest, false) := by
  induction l with
  | nil => intro rest; rfl
  | cons x l ih =>
    intro rest
    have hx := h x (by simp)
    have hf : held2 far = 1099511627776 := by decide
    have hxe : ((held2 x : Nat) : Int) = x := by unfold held2; unfold far at hx; omega
    have hr : rnum far (numsL (x :: l) ++ rest) false = (x, numsL l ++ rest, false) := by
      rw [numsL_cons, List.append_assoc, rnum_enc (by unfold far at hx; omega), hxe]
    rw [List.length_cons, rnums_succ, hr]
    simp only
    rw [ih (fun y hy => h y (List.mem_cons_of_mem _ hy))]
theorem numbers_eq {b : List UInt8} (hb : b.length ≤ 1000000000) (bad : Bool) {top : Int} (ht : held2 top ≤ 50) : mesg_numbers.f 2000000 b bad top = some (rnums (rnum top b bad).1.toNat (rnum top b bad).2.1 (rnum top b bad).2.2) := by
  suffices h : Sat (mesg_numbers.f 2000000 b bad top) (fun r => r = rnums (rnum top b bad).1.toNat (rnum top b bad).2.1 (rnum top b bad).2.2) by
    obtain ⟨r, h1, h2⟩ := h; rw [h1, h2]
  unfold mesg_numbers.f
  refine sat_b (rnum_eq (by decide) (by omega) bad top) ?_
  have hr := rnum_range top b bad
  have hs := rnum_shrinks top b bad
  generalize rnum top b bad = p at *
  obtain ⟨n, b1, bad1⟩ := p
  simp only at hr hs ⊢
  obtain ⟨k, rfl⟩ : ∃ k : Nat, n = k := ⟨n.toNat, by omega⟩
  rw [Int.toNat_natCast]
  refine sat_loop (fun v : List Int × Int × List UInt8 × Bool => ((k : Int) - v.2.1).toNat) (fun v => ∃ i : Nat, v.2.1 = i ∧ i ≤ k ∧ v.1.length = i ∧ v.2.2.1.length ≤ b1.length ∧ (v.1 ++ (rnums (k - i) v.2.2.1 v.2.2.2).1, (rnums (k - i) v.2.2.1 v.2.2.2).2) = rnums k b1 bad1) ?_ 2000000 _ ⟨0, rfl, by omega, rfl, Nat.le_refl _, by simp⟩ (by simp only; omega)
  rintro ⟨out, j, c, cb⟩ ⟨i, h1, h2, h3, h4, h5⟩ ag hag
  simp only at h1 h3 h4 h5
  subst h1
  show Sat (mesg_numbers.B1 2000000 ((k : Int), b1, bad1) _ ag out i c cb) _
  unfold mesg_numbers.B1
  refine sat_if (fun hlt => ?_) (fun hge => ?_)
  · have hlt : i < k := by simp only at hlt; omega
    have hs2 := rnum_shrinks far c cb
    refine sat_b (rnum_eq (by decide) (by omega) cb far) (sat_b (app_eq (by simp only [List.length_singleton]; omega)) ?_)
    have hw : w64 ((i : Int) + 1) = ((i + 1 : Nat) : Int) := by rw [w64_succ (by omega) (by omega)]; simp
    rw [hw]
    refine hag _ ⟨i + 1, rfl, by omega, by simp [h3], by simp only; omega, ?_⟩ (by simp only; omega)
    simp only
    rw [← h5, show k - i = (k - (i + 1)) + 1 by omega, rnums_succ]
    simp
  · have hik : i = k := by simp only at hge; omega
    subst hik
    rw [Nat.sub_self] at h5
    show Sat (mesg_numbers.J1 2000000 out c cb) _
    unfold mesg_numbers.J1
    refine sat_r ?_
    rw [← h5]
    simp [rnums]
end Go.Gp
