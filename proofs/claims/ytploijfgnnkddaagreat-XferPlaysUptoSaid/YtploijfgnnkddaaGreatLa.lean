/- The words in which this claim's functions are told, and memory as fragments. -/
import Derived.Tactics
import Derived.Orders
import Derived.Laws.AppendOwn
import Derived.Maps.AppendAt
import Derived.Laws.Slices
import Derived.Below
import Derived.WalkKit
import GoSem.Core.View
/- Memory as fragments: which blocks hold what, for the contracts of this seat. -/
namespace Go.Gp
abbrev Mem := Nat → Option Obj
def hp (w : World) : Mem := fun k => w.heap[k]?
def Mem.le (M N : Mem) : Prop := ∀ k o, M k = some o → N k = some o
def Mem.no : Mem := fun _ => none
def Mem.un (M N : Mem) : Mem := fun k => match M k with | some o => some o | none => N k
def Mem.one (g : Nat) (o : Obj) : Mem := fun k => if k = g then some o else none
def Mem.cell (M : Mem) (a : Addr) : Option Value :=
  match M a.block with
  | some (.cells c _ _) => if a.spot.isSome then none else c[a.off]?
  | _ => none
theorem Mem.le.refl (M : Mem) : M.le M := fun _ _ h => h
theorem Mem.le.trans {A B C : Mem} (h : A.le B) (k : B.le C) : A.le C := fun i o x => k i o (h i o x)
theorem Mem.no_le (M : Mem) : Mem.no.le M := fun _ _ h => by cases h
theorem Mem.le_un (M N : Mem) : M.le (M.un N) := fun k o h => by simp [Mem.un, h]
theorem Mem.un_le {M N P : Mem} (h : M.le P) (k : N.le P) : (M.un N).le P := fun i o x => by
  unfold Mem.un at x; split at x
  · rename_i u hu; cases x; exact h _ _ hu
  · exact k _ _ x
theorem Mem.un_mono {M M' N N' : Mem} (h : M.le M') (k : N.le N') (ha : ∀ i, N i ≠ none → M' i ≠ none → M i ≠ none) : (M.un N).le (M'.un N') := fun i o x => by
  unfold Mem.un at x ⊢; split at x
  · rename_i u hu; cases x; rw [h _ _ hu]
  · rename_i hn
    cases hm : M' i with
    | none => exact k _ _ x
    | some u => exact absurd hn (ha i (by rw [x]; simp) (by rw [hm]; simp))
theorem Mem.un_left {M N N' : Mem} (k : N.le N') : (M.un N).le (M.un N') := Mem.un_mono (Mem.le.refl _) k (fun _ _ h => h)
theorem Mem.no_un (A : Mem) : Mem.no.un A = A := by funext k; rfl
theorem Mem.cell_le {M N : Mem} (h : M.le N) {a : Addr} {v : Value} (hc : M.cell a = some v) : N.cell a = some v := by
  unfold Mem.cell at hc ⊢
  cases hm : M a.block with
  | none => simp [hm] at hc
  | some o => rw [hm] at hc; rw [h _ _ hm]; exact hc
theorem Mem.un_none {M N : Mem} {k : Nat} : M.un N k = none ↔ M k = none ∧ N k = none := by
  unfold Mem.un; cases M k <;> simp
theorem Mem.one_self (g : Nat) (o : Obj) : Mem.one g o g = some o := by simp [Mem.one]
theorem Mem.one_le {g : Nat} {o : Obj} {M : Mem} (h : M g = some o) : (Mem.one g o).le M := fun k u hu => by
  unfold Mem.one at hu; split at hu
  · rename_i e; subst e; cases hu; exact h
  · cases hu
theorem Mem.one_dom {g : Nat} {o : Obj} {k : Nat} (h : Mem.one g o k ≠ none) : k = g := by
  unfold Mem.one at h; split at h
  · assumption
  · exact absurd rfl h
def A4A (o : Obj) : Prop := match o with
  | .cells cs _ fz => fz.1 = fz.2 ∨ cs.size ≤ fz.1
  | _ => True
def Mem.Cl (M : Mem) : Prop := ∀ k o, M k = some o → A4A o
theorem Mem.Cl.no : Mem.no.Cl := fun _ _ h => by cases h
theorem Mem.Cl.le {M N : Mem} (h : N.Cl) (k : M.le N) : M.Cl := fun i o x => h i o (k i o x)
theorem Mem.Cl.un {M N : Mem} (h : M.Cl) (k : N.Cl) : (M.un N).Cl := fun i o x => by
  unfold Mem.un at x; split at x
  · rename_i u hu; cases x; exact h _ _ hu
  · exact k _ _ x
theorem Mem.Cl.one {g : Nat} {o : Obj} (h : A4A o) : (Mem.one g o).Cl := fun k u hu => by
  unfold Mem.one at hu; split at hu
  · cases hu; exact h
  · cases hu
theorem A4A.z {cs : Array Value} {t : TypeId} : A4A (.cells cs t (0, 0)) := .inl rfl
theorem A4A.e {cs : Array Value} {t : TypeId} {a b : Nat} (h : cs.size ≤ a) : A4A (.cells cs t (a, b)) := .inr h
theorem Mem.Cl.z {g : Nat} {cs : Array Value} {t : TypeId} : (Mem.one g (.cells cs t (0, 0))).Cl := .one .z
def nth (l : List Mem) (i : Nat) : Mem := (l[i]?).getD Mem.no
@[simp] theorem A8o (i : Nat) : nth [] i = Mem.no := by simp [nth]
@[simp] theorem A1c (M : Mem) (l : List Mem) : nth (M :: l) 0 = M := by simp [nth]
@[simp] theorem V7 (M : Mem) (l : List Mem) (i : Nat) : nth (M :: l) (i + 1) = nth l i := by simp [nth]
theorem A0F (l : List Mem) (i j : Nat) (M : Mem) : nth (l.set i M) j = if i = j ∧ i < l.length then M else nth l j := by
  unfold nth; rw [List.getElem?_set]
  by_cases h : i = j
  · subst h
    by_cases hl : i < l.length
    · simp [hl]
    · simp [hl]
  · simp [h]
theorem A0v (l m : List Mem) (j : Nat) : nth (l ++ m) j = if j < l.length then nth l j else nth m (j - l.length) := by
  unfold nth
  by_cases h : j < l.length
  · rw [if_pos h, List.getElem?_append_left h]
  · rw [if_neg h, List.getElem?_append_right (by omega)]
theorem A4S {l : List Mem} {j : Nat} (h : l.length ≤ j) : nth l j = Mem.no := by simp [nth, h]
structure Sep (w0 w : World) (l : List Mem) (Z : Mem) : Prop where
  os : w.os = w0.os
  tape : w.tape = w0.tape
  output : w.output = w0.output
  size : w0.heap.size ≤ w.heap.size
  old : Z.le (hp w)
  own : ∀ i, (nth l i).le (hp w)
  az : ∀ i k, nth l i k ≠ none → Z k = none
  ap : ∀ i j k, i ≠ j → nth l i k ≠ none → nth l j k = none
  cl : ∀ i, (nth l i).Cl
namespace Sep
variable {w0 w w' : World} {l : List Mem} {Z : Mem}
theorem lt (h : Sep w0 w l Z) {i k : Nat} (hk : nth l i k ≠ none) : k < w.heap.size := by
  cases ho : nth l i k with
  | none => exact absurd ho hk
  | some o => exact (Array.getElem?_eq_some_iff.1 (h.own i k o ho)).1
theorem ltZ (h : Sep w0 w l Z) {k : Nat} (hk : Z k ≠ none) : k < w.heap.size := by
  cases ho : Z k with
  | none => exact absurd ho hk
  | some o => exact (Array.getElem?_eq_some_iff.1 (h.old k o ho)).1
theorem congr (h : Sep w0 w l Z) {l' : List Mem} (e : ∀ i, nth l' i = nth l i) : Sep w0 w l' Z :=
  ⟨h.os, h.tape, h.output, h.size, h.old, fun i => by rw [e]; exact h.own i, fun i k => by rw [e]; exact h.az i k, fun i j k => by rw [e, e]; exact h.ap i j k, fun i => by rw [e]; exact h.cl i⟩
theorem change (h : Sep w0 w l Z) (i : Nat) (M' : Mem) (hos : w'.os = w.os) (ht : w'.tape = w.tape) (ho : w'.output = w.output) (hs : w.heap.size ≤ w'.heap.size)
    (hk : ∀ k, k < w.heap.size → nth l i k = none → w'.heap[k]? = w.heap[k]?) (hM : M'.le (hp w')) (hd : ∀ k, M' k ≠ none → nth l i k ≠ none ∨ w.heap.size ≤ k) (hcl : M'.Cl) : Sep w0 w' (l.set i M') Z := by
  have keep : ∀ {M : Mem}, M.le (hp w) → (∀ k, M k ≠ none → nth l i k = none) → M.le (hp w') := fun {M} hm hn k o hko => by
    have hlt : k < w.heap.size := (Array.getElem?_eq_some_iff.1 (hm k o hko)).1; exact (hk k hlt (hn k (by rw [hko]; simp))).trans (hm k o hko)
  have fresh : ∀ k, M' k ≠ none → ∀ j, i ≠ j → nth l j k = none := fun k hk' j hij => by
    rcases hd k hk' with h1 | h1
    · exact h.ap i j k hij h1
    · cases hn : nth l j k with
      | none => rfl
      | some o => exact absurd (h.lt (i := j) (k := k) (by rw [hn]; simp)) (by omega)
  refine ⟨hos.trans h.os, ht.trans h.tape, ho.trans h.output, Nat.le_trans h.size hs, ?_, ?_, ?_, ?_, fun j => by
    rw [A0F]; split
    · exact hcl
    · exact h.cl j⟩
  · exact keep h.old (fun k hz => by
      cases hn : nth l i k with
      | none => rfl
      | some o => exact absurd (h.az i k (by rw [hn]; simp)) hz)
  · intro j; rw [A0F]; split
    · exact hM
    · rename_i hne
      by_cases hij : i = j
      · subst hij; rw [A4S (by omega)]; exact Mem.no_le _
      · exact keep (h.own j) (fun k hk' => h.ap j i k (Ne.symm hij) hk')
  · intro j k hjk; rw [A0F] at hjk; split at hjk
    · rcases hd k hjk with h1 | h1
      · exact h.az i k h1
      · cases hz : Z k with
        | none => rfl
        | some o => exact absurd (h.ltZ (k := k) (by rw [hz]; simp)) (by omega)
    · exact h.az j k hjk
  · intro j j' k hjj hjk; rw [A0F] at hjk ⊢; split at hjk
    · rename_i h1
      rw [if_neg (fun h2 => hjj (h1.1.symm.trans h2.1))]; exact fresh k hjk j' (fun e => hjj (h1.1.symm.trans e))
    · split
      · rename_i h1 h2
        cases hm : M' k with
        | none => rfl
        | some o =>
          have := fresh k (by rw [hm]; simp) j (fun e => hjj (e.symm.trans h2.1)); exact absurd this hjk
      · exact h.ap j j' k hjj hjk
theorem push (h : Sep w0 w l Z) (M' : Mem) (hos : w'.os = w.os) (ht : w'.tape = w.tape) (ho : w'.output = w.output) (hs : w.heap.size ≤ w'.heap.size)
    (hk : ∀ k, k < w.heap.size → w'.heap[k]? = w.heap[k]?) (hM : M'.le (hp w')) (hd : ∀ k, M' k ≠ none → w.heap.size ≤ k) (hcl : M'.Cl) : Sep w0 w' (l ++ [M']) Z := by
  have h1 : Sep w0 w (l ++ [Mem.no]) Z := h.congr (fun i => by
    rw [A0v]; split
    · rfl
    · rename_i hl
      rw [A4S (l := l) (by omega)]; cases hi : i - l.length <;> simp [nth])
  have h2 := h1.change (w' := w') l.length M' hos ht ho hs (fun k hlt _ => hk k hlt) hM (fun k hk' => .inr (hd k hk')) hcl
  simpa using h2
theorem alloc (h : Sep w0 w l Z) (o : Obj) (ho : A4A o) : Sep w0 (w.alloc o) (l ++ [Mem.one w.heap.size o]) Z := by
  refine h.push _ rfl rfl rfl ?_ (fun k hk => ?_) (Mem.one_le ?_) (fun k hk => ?_) (.one ho)
  · show w.heap.size ≤ (w.heap.push o).size; simp
  · show (w.heap.push o)[k]? = w.heap[k]?; simp [Array.getElem?_push, Nat.ne_of_lt hk]
  · show (w.heap.push o)[w.heap.size]? = some o; simp
  · rw [Mem.one_dom hk]; exact Nat.le_refl _
theorem drew (h : Sep w0 w l Z) : Sep w0 w.drew l Z := ⟨h.os, h.tape, h.output, h.size, h.old, h.own, h.az, h.ap, h.cl⟩
theorem drop (h : Sep w0 w l Z) (i : Nat) : Sep w0 w (l.set i Mem.no) Z :=
  h.change i Mem.no rfl rfl rfl (Nat.le_refl _) (fun _ _ _ => rfl) (Mem.no_le _) (fun _ hk => absurd rfl hk) .no
theorem heap_at (h : Sep w0 w l Z) {i g : Nat} {o : Obj} (e : nth l i = Mem.one g o) : w.heap[g]? = some o := h.own i g o (by rw [e]; exact Mem.one_self g o)
theorem merge (h : Sep w0 w l Z) (i j : Nat) (hij : i ≠ j) (hj : j < l.length) : Sep w0 w ((l.set j Mem.no).set i ((nth l i).un (nth l j))) Z := by
  have nset : ∀ p, nth (l.set j Mem.no) p = if j = p then Mem.no else nth l p := fun p => by rw [A0F]; simp [hj]
  have hi' : nth (l.set j Mem.no) i = nth l i := by rw [nset, if_neg (Ne.symm hij)]
  by_cases hi : i < l.length
  · refine ⟨h.os, h.tape, h.output, h.size, h.old, ?_, ?_, ?_, fun p => by
      rw [A0F]; split
      · exact (h.cl i).un (h.cl j)
      · rw [nset]; split
        · exact .no
        · exact h.cl p⟩
    · intro p; rw [A0F]; split
      · exact Mem.un_le (h.own i) (h.own j)
      · rw [nset]; split
        · exact Mem.no_le _
        · exact h.own p
    · intro p k hk; rw [A0F] at hk; split at hk
      · by_cases hik : nth l i k = none
        · by_cases hjk : nth l j k = none
          · exact absurd (Mem.un_none.2 ⟨hik, hjk⟩) hk
          · exact h.az j k hjk
        · exact h.az i k hik
      · rw [nset] at hk; split at hk
        · exact absurd rfl hk
        · exact h.az p k hk
    · intro p q k hpq hk; have key : ∀ q, q ≠ i → ((nth l i).un (nth l j)) k ≠ none → nth (l.set j Mem.no) q k = none := fun q hqi hu => by
        rw [nset]; split
        · rfl
        · rename_i hjq
          by_cases hik : nth l i k = none
          · by_cases hjk : nth l j k = none
            · exact absurd (Mem.un_none.2 ⟨hik, hjk⟩) hu
            · exact h.ap j q k hjq hjk
          · exact h.ap i q k (Ne.symm hqi) hik
      rw [A0F] at hk ⊢; split at hk
      · rename_i h1
        rw [if_neg (fun h2 => hpq (h1.1.symm.trans h2.1))]; exact key q (fun e => hpq (h1.1.symm.trans e.symm)) hk
      · rename_i h1
        split
        · rename_i h2
          by_cases hu : ((nth l i).un (nth l j)) k = none
          · exact hu
          · exact absurd (key p (fun e => h1 ⟨e.symm, by simpa using hi⟩) hu) hk
        · rw [nset] at hk ⊢; split
          · rfl
          · split at hk
            · exact absurd rfl hk
            · exact h.ap p q k hpq hk
  · refine (h.drop j).congr (fun p => ?_); rw [List.set_eq_of_length_le (by simpa using hi)]
end Sep
def A2u : List Mem → Mem
  | [] => Mem.no
  | M :: l => M.un (A2u l)
def A3b (l : List Mem) : List Nat → List Mem
  | [] => l
  | p :: ps => A3b (l.set p Mem.no) ps
def A1x (l : List Mem) : List Nat → List Mem → List Mem
  | [], _ => l
  | p :: ps, [] => A1x (l.set p Mem.no) ps []
  | p :: ps, M :: ms => A1x (l.set p M) ps ms
theorem A5J {l : List Mem} {k : Nat} : A2u l k = none ↔ ∀ i, nth l i k = none := by
  induction l with
  | nil => simp [A2u, Mem.no]
  | cons M l ih =>
    rw [A2u, Mem.un_none, ih]
    constructor
    · rintro ⟨h1, h2⟩ i
      cases i with
      | zero => simpa using h1
      | succ i => simpa using h2 i
    · intro h; exact ⟨by simpa using h 0, fun i => by simpa using h (i + 1)⟩
theorem A4v {l : List Mem} {k : Nat} {o : Obj} (h : A2u l k = some o) : ∃ i, nth l i k = some o := by
  induction l with
  | nil => simp [A2u, Mem.no] at h
  | cons M l ih =>
    rw [A2u] at h; unfold Mem.un at h; split at h
    · rename_i u hu; cases h; exact ⟨0, by simpa using hu⟩
    · obtain ⟨i, hi⟩ := ih h; exact ⟨i + 1, by simpa using hi⟩
theorem A3i (ps : List Nat) : ∀ (l : List Mem) (i : Nat), nth (A3b l ps) i = if i ∈ ps then Mem.no else nth l i := by
  induction ps with
  | nil => intro l i; simp [A3b]
  | cons p ps ih =>
    intro l i; rw [A3b, ih, A0F]
    by_cases h1 : i ∈ ps
    · simp [h1]
    · by_cases h2 : p = i
      · subst h2
        by_cases h3 : p < l.length
        · simp [h3]
        · simp [h1, h3, A4S (Nat.le_of_not_lt h3)]
      · simp [h1, h2, Ne.symm h2]
theorem B0p (ps : List Nat) : ∀ (l ms : List Mem) (_hd : ps.Nodup) (_hl : ∀ p ∈ ps, p < l.length) (i : Nat), nth (A1x l ps ms) i = match ps.idxOf? i with | some j => nth ms j | none => nth l i := by
  induction ps with
  | nil => intro l ms _ _ i; simp [A1x]
  | cons p ps ih =>
    intro l ms hd hl i; obtain ⟨hp, hd'⟩ := List.nodup_cons.1 hd; have hpl := hl p List.mem_cons_self; have hnone : ps.idxOf? p = none := by
      simp only [List.idxOf?, List.findIdx?_eq_none_iff, beq_eq_false_iff_ne]; intro x hx e; exact hp (e ▸ hx)
    have aux : ∀ (M : Mem) (ms' : List Mem), nth (A1x (l.set p M) ps ms') i = if p = i then M else match ps.idxOf? i with | some j => nth ms' j | none => nth l i := by
      intro M ms'; rw [ih (l.set p M) ms' hd' (fun q hq => by rw [List.length_set]; exact hl q (List.mem_cons_of_mem _ hq)) i]
      by_cases hpi : p = i
      · subst hpi; rw [hnone]; simp [A0F, hpl]
      · rw [if_neg hpi]; simp [A0F, hpi]
    have hidx : (p :: ps).idxOf? i = if p = i then some 0 else (ps.idxOf? i).map (· + 1) := by
      rw [List.idxOf?_cons]
      by_cases hpi : p = i <;> simp [hpi]
    rw [hidx]
    cases ms with
    | nil =>
      show nth (A1x (l.set p Mem.no) ps []) i = _; rw [aux]
      by_cases hpi : p = i
      · simp [hpi]
      · simp only [if_neg hpi]; cases ps.idxOf? i <;> simp
    | cons M ms =>
      show nth (A1x (l.set p M) ps ms) i = _; rw [aux]
      by_cases hpi : p = i
      · simp [hpi]
      · simp only [if_neg hpi]; cases ps.idxOf? i <;> simp
theorem A7W (ps : List Nat) : ∀ (l ms : List Mem), (A1x l ps ms).length = l.length := by
  induction ps with
  | nil => intro l ms; rfl
  | cons p ps ih => intro l ms; cases ms <;> simp [A1x, ih]
namespace Sep
variable {w0 w w' : World} {l : List Mem} {Z N0 : Mem}
theorem start (h : Sep w0 w l Z) : Sep w0 w (Mem.no :: l) Z := by
  have sh : ∀ i, nth (Mem.no :: l) i = match i with | 0 => Mem.no | i + 1 => nth l i := fun i => by cases i <;> simp
  refine ⟨h.os, h.tape, h.output, h.size, h.old, fun i => ?_, fun i k hk => ?_, fun i j k hij hk => ?_, fun i => by
    rw [sh]; cases i with
    | zero => exact .no
    | succ i => exact h.cl i⟩
  · rw [sh]; cases i with
    | zero => exact Mem.no_le _
    | succ i => exact h.own i
  · rw [sh] at hk; cases i with
    | zero => exact absurd rfl hk
    | succ i => exact h.az i k hk
  · rw [sh] at hk ⊢
    cases i with
    | zero => exact absurd rfl hk
    | succ i => cases j with
      | zero => rfl
      | succ j => exact h.ap i j k (fun e => hij (by rw [e])) hk
def zed (Z N0 : Mem) (l : List Mem) (ps : List Nat) : Mem := Z.un (N0.un (A2u (A3b l ps)))
theorem le_zed (_h : Sep w0 w (N0 :: l) Z) (ps : List Nat) : Z.le (zed Z N0 l ps) := Mem.le_un _ _
theorem new_zed (h : Sep w0 w (N0 :: l) Z) (ps : List Nat) : N0.le (zed Z N0 l ps) := fun k o ho => by
  have hz := h.az 0 k (by rw [A1c, ho]; simp); simp [zed, Mem.un, hz, ho]
theorem own_zed (h : Sep w0 w (N0 :: l) Z) (ps : List Nat) (q : Nat) (hq : q ∉ ps) : (nth l q).le (zed Z N0 l ps) := fun k o ho => by
  have hz := h.az (q + 1) k (by rw [V7, ho]; simp); have hn : N0 k = none := by
    have := h.ap (q + 1) 0 k (by omega) (by rw [V7, ho]; simp)
    simpa using this
  have hb : nth (A3b l ps) q k = some o := by rw [A3i, if_neg hq]; exact ho
  have hj : A2u (A3b l ps) k = some o := by
    cases hjo : A2u (A3b l ps) k with
    | none => rw [A5J.1 hjo q] at hb; cases hb
    | some u =>
      obtain ⟨i, hi⟩ := A4v hjo
      by_cases hiq : i = q
      · subst hiq; rw [hb] at hi; exact hi.symm
      · rw [A3i] at hi; split at hi
        · cases hi
        · have := h.ap (q + 1) (i + 1) k (by omega) (by rw [V7, ho]; simp); rw [V7, hi] at this; cases this
  simp [zed, Mem.un, hz, hn, hj]
theorem B0J {ps : List Nat} {k : Nat} (hk : zed Z N0 l ps k ≠ none) : Z k ≠ none ∨ N0 k ≠ none ∨ ∃ q, q ∉ ps ∧ nth l q k ≠ none := by
  by_cases h1 : Z k = none
  · by_cases h2 : N0 k = none
    · by_cases h3 : A2u (A3b l ps) k = none
      · exact absurd (Mem.un_none.2 ⟨h1, Mem.un_none.2 ⟨h2, h3⟩⟩) hk
      · cases hjo : A2u (A3b l ps) k with
        | none => exact absurd hjo h3
        | some u =>
          obtain ⟨i, hi⟩ := A4v hjo; rw [A3i] at hi; split at hi
          · cases hi
          · rename_i hin; exact .inr (.inr ⟨i, hin, by rw [hi]; simp⟩)
    · exact .inr (.inl h2)
  · exact .inl h1
theorem enter (h : Sep w0 w (N0 :: l) Z) (ps : List Nat) (hd : ps.Nodup) : Sep w0 w (ps.map (nth l)) (zed Z N0 l ps) := by
  have at_ : ∀ i k, nth (ps.map (nth l)) i k ≠ none → ∃ p, ps[i]? = some p ∧ nth l p k ≠ none ∧ nth (ps.map (nth l)) i = nth l p := fun i k hk => by
    unfold nth at hk ⊢; rw [List.getElem?_map] at hk ⊢
    cases hp : ps[i]? with
    | none => rw [hp] at hk; exact absurd rfl hk
    | some p => rw [hp] at hk; exact ⟨p, rfl, hk, rfl⟩
  have none_ : ∀ i k, (∀ p, ps[i]? = some p → nth l p k = none) → nth (ps.map (nth l)) i k = none := fun i k hp => by
    cases hn : nth (ps.map (nth l)) i k with
    | none => rfl
    | some o =>
      obtain ⟨p, h1, h2, _⟩ := at_ i k (by rw [hn]; simp); exact absurd (hp p h1) h2
  refine ⟨h.os, h.tape, h.output, h.size, ?_, fun i => ?_, fun i k hk => ?_, fun i j k hij hk => ?_, fun i k o ho => by
    obtain ⟨p, h1, h2, h3⟩ := at_ i k (by rw [ho]; simp); rw [h3] at ho; exact h.cl (p + 1) k o (by rw [V7]; exact ho)⟩
  · refine Mem.un_le h.old (Mem.un_le (by simpa using h.own 0) (fun k o ho => ?_)); obtain ⟨i, hi⟩ := A4v ho; rw [A3i] at hi; split at hi
    · cases hi
    · exact h.own (i + 1) k o (by rw [V7]; exact hi)
  · intro k o ho; obtain ⟨p, h1, h2, h3⟩ := at_ i k (by rw [ho]; simp); rw [h3] at ho; exact h.own (p + 1) k o (by rw [V7]; exact ho)
  · obtain ⟨p, h1, h2, h3⟩ := at_ i k hk; have hpm : p ∈ ps := List.mem_of_getElem? h1
    cases hz : zed Z N0 l ps k with
    | none => rfl
    | some o =>
      rcases B0J (Z := Z) (N0 := N0) (l := l) (ps := ps) (k := k) (by rw [hz]; simp) with h4 | h4 | ⟨q, hq, h4⟩
      · exact absurd (h.az (p + 1) k (by rw [V7]; exact h2)) h4
      · have := h.ap (p + 1) 0 k (by omega) (by rw [V7]; exact h2); exact absurd (by simpa using this) h4
      · have := h.ap (p + 1) (q + 1) k (fun e => hq (by have : p = q := by omega
                                                        rw [← this]; exact hpm)) (by rw [V7]; exact h2)
        exact absurd (by simpa using this) h4
  · obtain ⟨p, h1, h2, h3⟩ := at_ i k hk; refine none_ j k (fun q hq => ?_)
    have hpq : p ≠ q := fun e => hij (by
      subst e; have hi := (List.getElem?_eq_some_iff.1 h1); have hj := (List.getElem?_eq_some_iff.1 hq); obtain ⟨hi1, hi2⟩ := hi; obtain ⟨hj1, hj2⟩ := hj; exact (List.getElem_inj hd).1 (hi2.trans hj2.symm))
    have := h.ap (p + 1) (q + 1) k (by omega) (by rw [V7]; exact h2)
    simpa using this
theorem leave (h : Sep w0 w (N0 :: l) Z) (ps : List Nat) (hd : ps.Nodup) (hl : ∀ p ∈ ps, p < l.length) {N : Mem} {l' ow : List Mem} (hl' : l'.length = ps.length)
    (h' : Sep w0 w' (N :: (l' ++ ow)) (zed Z N0 l ps)) : Sep w0 w' (N0.un N :: (A1x l ps l' ++ ow)) Z := by
  have zZ : ∀ k, zed Z N0 l ps k = none → Z k = none := fun k hk => (Mem.un_none.1 hk).1; have zN : ∀ k, zed Z N0 l ps k = none → N0 k = none := fun k hk => (Mem.un_none.1 (Mem.un_none.1 hk).2).1; have zq : ∀ k, zed Z N0 l ps k = none → ∀ q, q ∉ ps → nth l q k = none := fun k hk q hq => by
    have := A5J.1 (Mem.un_none.1 (Mem.un_none.1 hk).2).2 q
    rwa [A3i, if_neg hq] at this
  -- where each place of the new list comes from
  have hlen : (A1x l ps l').length = l.length := A7W ps l l'
  have src : ∀ i, (∃ j, nth (A1x l ps l' ++ ow) i = nth (l' ++ ow) j ∧ (∀ i', i' ≠ i → ∀ j', (i' < l.length → ps.idxOf? i' = some j' → j' ≠ j) ∧ (l.length ≤ i' → i' - l.length + ps.length ≠ j))
      ∧ ((i < l.length ∧ ps.idxOf? i = some j) ∨ (l.length ≤ i ∧ j = i - l.length + ps.length))) ∨ (i < l.length ∧ i ∉ ps ∧ nth (A1x l ps l' ++ ow) i = nth l i) := by
    intro i
    by_cases hi : i < l.length
    · have e1 : nth (A1x l ps l' ++ ow) i = nth (A1x l ps l') i := by rw [A0v, hlen, if_pos hi]
      rw [e1, B0p ps l l' hd hl i]
      cases hix : ps.idxOf? i with
      | none => exact .inr ⟨hi, fun hm => by
          simp only [List.idxOf?, List.findIdx?_eq_none_iff, beq_eq_false_iff_ne] at hix; exact hix i hm rfl, rfl⟩
      | some j =>
        have hj : j < ps.length := by
          have := List.findIdx?_eq_some_iff_getElem.1 (by simpa [List.idxOf?] using hix); exact this.1
        have hpj : ps[j]? = some i := by
          have := List.findIdx?_eq_some_iff_getElem.1 (by simpa [List.idxOf?] using hix); obtain ⟨h1, h2, _⟩ := this; rw [List.getElem?_eq_getElem h1]
          simpa using h2
        refine .inl ⟨j, ?_, fun i' hne j' => ⟨fun _ hx hjj => ?_, fun _ => by omega⟩, .inl ⟨hi, rfl⟩⟩
        · show nth l' j = _; rw [A0v, hl', if_pos hj]
        · subst hjj; have := List.findIdx?_eq_some_iff_getElem.1 (by simpa [List.idxOf?] using hx); obtain ⟨h1, h2, _⟩ := this; rw [List.getElem?_eq_getElem h1] at hpj; have e2 : ps[j'] = i' := by simpa using h2
          rw [e2] at hpj; exact hne (Option.some.inj hpj)
    · have hge : l.length ≤ i := Nat.le_of_not_lt hi; refine .inl ⟨i - l.length + ps.length, ?_, fun i' hne j' => ⟨fun _ hx hjj => ?_, fun _ => by omega⟩, .inr ⟨hge, rfl⟩⟩
      · rw [A0v, hlen, if_neg hi, A0v, hl', if_neg (by omega)]
        congr 1; omega
      · have := List.findIdx?_eq_some_iff_getElem.1 (by simpa [List.idxOf?] using hx); have := this.1; omega
  have hown : ∀ j, (nth (l' ++ ow) j).le (hp w') := fun j => by simpa using h'.own (j + 1)
  have haz : ∀ j k, nth (l' ++ ow) j k ≠ none → zed Z N0 l ps k = none := fun j k hk => h'.az (j + 1) k (by simpa using hk); have hN : ∀ j k, nth (l' ++ ow) j k ≠ none → N k = none := fun j k hk => by simpa using h'.ap (j + 1) 0 k (by omega) (by simpa using hk)
  have hqw : ∀ q, q ∉ ps → (nth l q).le (hp w') := fun q hq => (own_zed h ps q hq).trans h'.old; have hNz : ∀ k, N k ≠ none → zed Z N0 l ps k = none := fun k hk => h'.az 0 k (by simpa using hk); refine ⟨h'.os, h'.tape, h'.output, h'.size, (le_zed h ps).trans h'.old, fun i => ?_, fun i k hk => ?_, fun i i' k hii hk => ?_, fun i => by
    cases i with
    | zero => rw [A1c]; exact Mem.Cl.un (by simpa using h.cl 0) (by simpa using h'.cl 0)
    | succ i =>
      rw [V7]
      rcases src i with ⟨j, e, _⟩ | ⟨_, hq, e⟩
      · rw [e]; simpa using h'.cl (j + 1)
      · rw [e]; simpa using h.cl (i + 1)⟩
  · cases i with
    | zero => rw [A1c]; exact Mem.un_le ((new_zed h ps).trans h'.old) (by simpa using h'.own 0)
    | succ i =>
      rw [V7]
      rcases src i with ⟨j, e, _⟩ | ⟨_, hq, e⟩
      · rw [e]; exact hown j
      · rw [e]; exact hqw i hq
  · cases i with
    | zero =>
      rw [A1c] at hk
      by_cases h0 : N0 k = none
      · exact zZ k (hNz k (fun e => hk (Mem.un_none.2 ⟨h0, e⟩)))
      · exact h.az 0 k (by simpa using h0)
    | succ i =>
      rw [V7] at hk
      rcases src i with ⟨j, e, _⟩ | ⟨_, hq, e⟩
      · rw [e] at hk; exact zZ k (haz j k hk)
      · rw [e] at hk; exact h.az (i + 1) k (by simpa using hk)
  · have both : ∀ a b, a ≠ b → nth (A1x l ps l' ++ ow) a k ≠ none → nth (A1x l ps l' ++ ow) b k = none := fun a b hab hka => by
      rcases src a with ⟨j, e, hu, hw⟩ | ⟨_, hq, e⟩
      · rw [e] at hka
        rcases src b with ⟨j', e', _, hw'⟩ | ⟨_, hq', e'⟩
        · rw [e']; have hjj : j ≠ j' := fun e2 => by
            subst e2
            rcases hw' with ⟨h1, h2⟩ | ⟨h1, h2⟩
            · exact (hu b (Ne.symm hab) j).1 h1 h2 rfl
            · exact (hu b (Ne.symm hab) j).2 h1 h2.symm
          simpa using h'.ap (j + 1) (j' + 1) k (by omega) (by simpa using hka)
        · rw [e']; exact zq k (haz j k hka) b hq'
      · rw [e] at hka
        rcases src b with ⟨j', e', _, _⟩ | ⟨_, hq', e'⟩
        · rw [e']
          cases hn : nth (l' ++ ow) j' k with
          | none => rfl
          | some o => exact absurd (zq k (haz j' k (by rw [hn]; simp)) a hq) hka
        · rw [e']; simpa using h.ap (a + 1) (b + 1) k (by omega) (by simpa using hka)
    have first : ∀ a, nth (A1x l ps l' ++ ow) a k ≠ none → (N0.un N) k = none := fun a hka => by
      rcases src a with ⟨j, e, _⟩ | ⟨_, hq, e⟩
      · rw [e] at hka; exact Mem.un_none.2 ⟨zN k (haz j k hka), hN j k hka⟩
      · rw [e] at hka; refine Mem.un_none.2 ⟨by simpa using h.ap (a + 1) 0 k (by omega) (by simpa using hka), ?_⟩
        cases hn : N k with
        | none => rfl
        | some o => exact absurd (zq k (hNz k (by rw [hn]; simp)) a hq) hka
    cases i with
    | zero =>
      cases i' with
      | zero => exact absurd rfl hii
      | succ i' =>
        rw [A1c] at hk; rw [V7]
        cases hn : nth (A1x l ps l' ++ ow) i' k with
        | none => rfl
        | some o => exact absurd (first i' (by rw [hn]; simp)) hk
    | succ i =>
      rw [V7] at hk
      cases i' with
      | zero => rw [A1c]; exact first i hk
      | succ i' => rw [V7]; exact both i i' (by omega) hk
end Sep
end Go.Gp
/- What cells say of values: read in a fragment (Kd, Rd), or a row of one's own (Own). -/
namespace Go.Gp
open Go
structure Kd (α : Type) where
  sz : Nat
  K : Mem → α → List Value → Prop
  len : ∀ {M x cs}, K M x cs → cs.length = sz
  one : ∀ {M x cs}, K M x cs → ∀ v ∈ cs, v.oneCell' = true
  mono : ∀ {M N : Mem} {x cs}, M.le N → K M x cs → K N x cs
def At {α : Type} (d : Kd α) (M : Mem) (ad : Addr) (x : α) : Prop := ∃ cs, d.K M x cs ∧ ∀ i u, cs[i]? = some u → M.cell (ad.add i) = some u
theorem At.mono {α : Type} {d : Kd α} {M N : Mem} {ad : Addr} {x : α} (h : At d M ad x) (k : M.le N) : At d N ad x := by
  obtain ⟨cs, h1, h2⟩ := h; exact ⟨cs, d.mono k h1, fun i u hu => Mem.cell_le k (h2 i u hu)⟩
def Rd {α : Type} (d : Kd α) (M : Mem) (v : Value) (xs : List α) : Prop :=
  ∃ A c, v = .slice A xs.length c ∧ xs.length ≤ c ∧ xs.length ≤ maxLen ∧ (xs ≠ [] → ∃ ad, A = some ad ∧ ∀ (j : Nat) x, xs[j]? = some x → At d M (ad.add (j * d.sz)) x)
theorem Rd.mono {α : Type} {d : Kd α} {M N : Mem} {v : Value} {xs : List α} (h : Rd d M v xs) (k : M.le N) : Rd d N v xs := by
  obtain ⟨A, c, h1, h2, h3, h4⟩ := h; refine ⟨A, c, h1, h2, h3, fun hn => ?_⟩; obtain ⟨ad, e, h5⟩ := h4 hn; exact ⟨ad, e, fun j x hx => (h5 j x hx).mono k⟩
theorem Rd.nil {α : Type} (d : Kd α) (M : Mem) : Rd d M (.slice none 0 0) ([] : List α) := ⟨none, 0, rfl, Nat.le_refl _, Nat.zero_le _, fun h => absurd rfl h⟩
theorem Rd.bound {α : Type} {d : Kd α} {M : Mem} {v : Value} {xs : List α} (h : Rd d M v xs) : xs.length ≤ maxLen := by
  obtain ⟨A, c, h1, h2, h3, h4⟩ := h; exact h3
theorem Rd.one {α : Type} {d : Kd α} {M : Mem} {v : Value} {xs : List α} (h : Rd d M v xs) : v.oneCell' = true := by
  obtain ⟨A, c, rfl, _⟩ := h; rfl
theorem Rd.cellsA {α : Type} {d : Kd α} {M : Mem} {v : Value} {xs : List α} (h : Rd d M v xs) : v.cells = [v].toArray := by
  obtain ⟨A, c, rfl, _⟩ := h; rfl
theorem Rd.cells {α : Type} {d : Kd α} {M : Mem} {v : Value} {xs : List α} (h : Rd d M v xs) : v.cells.toList = [v] := by rw [h.cellsA]
theorem Addr.add_add (a : Addr) (m n : Nat) : (a.add m).add n = a.add (m + n) := by
  unfold Addr.add
  by_cases hm : m = 0
  · subst hm; simp
  · by_cases hn : n = 0
    · subst hn; simp [hm]
    · simp [hm, hn, Nat.add_assoc]
theorem Addr.add_zero (a : Addr) : a.add 0 = a := rfl
theorem Addr.add_plain (g o n : Nat) : (⟨g, o, none⟩ : Addr).add n = ⟨g, o + n, none⟩ := by
  unfold Addr.add
  by_cases hn : n = 0
  · subst hn; rfl
  · simp [hn]
theorem Mem.cell_one {g : Nat} {cur : Array Value} {e : TypeId} {fz : Nat × Nat} {o : Nat} : (Mem.one g (.cells cur e fz)).cell ⟨g, o, none⟩ = cur[o]? := by
  simp [Mem.cell, Mem.one]
namespace Kd
def A4J {α : Type} (enc : α → Value) (h1 : ∀ x, (enc x).oneCell' = true) : Kd α where
  sz := 1
  K := fun _ x cs => cs = [enc x]
  len := fun h => by rw [h]; rfl
  one := fun h u hu => by
    rw [h] at hu; rw [List.mem_singleton.1 hu]; exact h1 _
  mono := fun _ h => h
def int (k : IntKind) : Kd Int := A4J (Value.int k) (fun _ => rfl)
def u8 : Kd UInt8 := A4J (fun x => Value.int .u8 (x.toNat : Int)) (fun _ => rfl)
def u32 : Kd UInt32 := A4J (fun x => Value.int .u32 (x.toNat : Int)) (fun _ => rfl)
def bool : Kd Bool := A4J Value.bool (fun _ => rfl)
def str : Kd (List UInt8) := A4J (fun l => Value.string ⟨l.toArray⟩) (fun _ => rfl)
def slice {α : Type} (d : Kd α) : Kd (List α) where
  sz := 1
  K := fun M xs cs => ∃ v, cs = [v] ∧ Rd d M v xs
  len := by rintro M x cs ⟨v, rfl, _⟩; rfl
  one := by
    rintro M x cs ⟨v, rfl, A, c, rfl, _⟩ u hu; rw [List.mem_singleton.1 hu]; rfl
  mono := by
    rintro M N x cs h ⟨v, rfl, hr⟩; exact ⟨v, rfl, hr.mono h⟩
def pair {α β : Type} (a : Kd α) (b : Kd β) : Kd (α × β) where
  sz := a.sz + b.sz
  K := fun M x cs => ∃ c0 c1, cs = c0 ++ c1 ∧ a.K M x.1 c0 ∧ b.K M x.2 c1
  len := by
    rintro M x cs ⟨c0, c1, rfl, h0, h1⟩; rw [List.length_append, a.len h0, b.len h1]
  one := by
    rintro M x cs ⟨c0, c1, rfl, h0, h1⟩ u hu
    rcases List.mem_append.1 hu with hu | hu
    · exact a.one h0 u hu
    · exact b.one h1 u hu
  mono := by
    rintro M N x cs h ⟨c0, c1, rfl, h0, h1⟩; exact ⟨c0, c1, rfl, a.mono h h0, b.mono h h1⟩
def iso {α β : Type} (d : Kd α) (f : β → α) : Kd β where
  sz := d.sz
  K := fun M x cs => d.K M (f x) cs
  len := d.len
  one := d.one
  mono := d.mono
end Kd
def D8 {α : Type} (d : Kd α) (I : Mem) (xs : List α) (cs : List Value) : Prop :=
  cs.length = xs.length * d.sz ∧ ∀ (j : Nat) x, xs[j]? = some x → d.K I x ((cs.drop (j * d.sz)).take d.sz)
theorem D8.nil {α : Type} (d : Kd α) (I : Mem) : D8 d I [] [] := ⟨by simp, fun j x h => by simp at h⟩
theorem D8.mono {α : Type} {d : Kd α} {I J : Mem} {xs : List α} {cs : List Value} (h : D8 d I xs cs) (k : I.le J) : D8 d J xs cs := ⟨h.1, fun j x hx => d.mono k (h.2 j x hx)⟩
theorem D8.append {α : Type} {d : Kd α} {I : Mem} {xs ys : List α} {cs ds : List Value} (h : D8 d I xs cs) (k : D8 d I ys ds) : D8 d I (xs ++ ys) (cs ++ ds) := by
  refine ⟨by rw [List.length_append, List.length_append, h.1, k.1, Nat.add_mul], fun j x hx => ?_⟩
  rcases Nat.lt_or_ge j xs.length with hj | hj
  · rw [List.getElem?_append_left hj] at hx; have h1 : j * d.sz + d.sz ≤ cs.length := by rw [h.1, ← Nat.succ_mul]; exact Nat.mul_le_mul_right _ hj
    rw [List.drop_append_of_le_length (by omega), List.take_append_of_le_length (by rw [List.length_drop]; omega)]; exact h.2 j x hx
  · rw [List.getElem?_append_right hj] at hx; have h1 : cs.length ≤ j * d.sz := by rw [h.1]; exact Nat.mul_le_mul_right _ hj
    have h2 : (cs ++ ds).drop (j * d.sz) = ds.drop ((j - xs.length) * d.sz) := by
      rw [List.drop_append, List.drop_eq_nil_of_le h1, List.nil_append, h.1, Nat.sub_mul]
    rw [h2]; exact k.2 _ x hx
theorem D8.one {α : Type} {d : Kd α} {I : Mem} {x : α} {cs : List Value} (h : d.K I x cs) : D8 d I [x] cs := by
  refine ⟨by simp [d.len h], fun j y hy => ?_⟩
  cases j with
  | zero =>
    simp at hy; subst hy; rw [Nat.zero_mul, List.drop_zero, ← d.len h, List.take_length]; exact h
  | succ j => simp at hy
theorem D8.ones {α : Type} {d : Kd α} {I : Mem} {xs : List α} {cs : List Value} (h : D8 d I xs cs) : ∀ v ∈ cs, v.oneCell' = true := by
  intro v hv; obtain ⟨i, hi, rfl⟩ := List.getElem_of_mem hv; have h0 : 0 < d.sz := by
    cases hz : d.sz with
    | zero => rw [h.1, hz] at hi; simp at hi
    | succ n => omega
  have hj : i / d.sz < xs.length := by
    rw [h.1] at hi; exact Nat.div_lt_of_lt_mul (by rw [Nat.mul_comm]; exact hi)
  have hk := h.2 (i / d.sz) _ (List.getElem?_eq_getElem hj); refine d.one hk _ (List.mem_iff_getElem?.2 ⟨i % d.sz, ?_⟩); rw [List.getElem?_take, if_pos (Nat.mod_lt _ h0), List.getElem?_drop, Nat.div_add_mod' , List.getElem?_eq_getElem hi]
theorem D8.set {α : Type} {d : Kd α} {I : Mem} {xs : List α} {cs c : List Value} (h : D8 d I xs cs) (j : Nat) (x : α) (hx : d.K I x c) (hj : j < xs.length) :
    D8 d I (xs.set j x) (cs.take (j * d.sz) ++ c ++ cs.drop (j * d.sz + d.sz)) := by
  have hc := d.len hx; have hl : j * d.sz + d.sz ≤ cs.length := by rw [h.1, ← Nat.succ_mul]; exact Nat.mul_le_mul_right _ hj
  have ht : (cs.take (j * d.sz)).length = j * d.sz := by rw [List.length_take]; omega
  refine ⟨by simp only [List.length_append, ht, hc, List.length_drop, List.length_set]; rw [← h.1]; omega, fun i y hy => ?_⟩; rw [List.append_assoc]
  rcases Nat.lt_trichotomy i j with hij | hij | hij
  · rw [List.getElem?_set_ne (by omega)] at hy; have h1 : i * d.sz + d.sz ≤ j * d.sz := by rw [← Nat.succ_mul]; exact Nat.mul_le_mul_right _ hij
    rw [List.drop_append_of_le_length (by rw [ht]; omega), List.take_append_of_le_length (by rw [List.length_drop, ht]; omega), List.drop_take, List.take_take]; have := h.2 i y hy
    rwa [Nat.min_eq_left (by omega)]
  · subst hij; rw [List.getElem?_set_self hj] at hy; cases hy; rw [List.drop_append, ht, Nat.sub_self, List.drop_zero, List.drop_eq_nil_of_le (by omega), List.nil_append, List.take_append_of_le_length (by omega), ← hc, List.take_length]; exact hx
  · rw [List.getElem?_set_ne (by omega)] at hy; have h1 : j * d.sz + d.sz ≤ i * d.sz := by rw [← Nat.succ_mul]; exact Nat.mul_le_mul_right _ hij
    rw [List.drop_append, List.drop_eq_nil_of_le (by omega), List.nil_append, ht, List.drop_append, List.drop_eq_nil_of_le (by omega), List.nil_append, List.drop_drop, hc]; have := h.2 i y hy
    rwa [show j * d.sz + d.sz + (i * d.sz - j * d.sz - d.sz) = i * d.sz by omega]
def Own {α : Type} (d : Kd α) (e : TypeId) (M I : Mem) (v : Value) (xs : List α) : Prop :=
  (v = .slice none 0 0 ∧ xs = [] ∧ M = Mem.no) ∨
  ∃ g cap cur, v = .slice (some ⟨g, 0, none⟩) xs.length cap ∧ M = Mem.one g (.cells cur e (0, 0)) ∧ xs.length ≤ cap ∧ cap ≤ maxLen ∧ cap * d.sz ≤ cur.size ∧ D8 d I xs (cur.toList.take (xs.length * d.sz))
section
variable {α : Type} {d : Kd α} {e : TypeId} {M I J : Mem} {v : Value} {xs : List α}
theorem Own.nil (d : Kd α) (e : TypeId) (I : Mem) : Own d e Mem.no I (.slice none 0 0) ([] : List α) := .inl ⟨rfl, rfl, rfl⟩
theorem Own.mono (h : Own d e M I v xs) (k : I.le J) : Own d e M J v xs := by
  rcases h with h | ⟨g, cap, cur, h1, h2, h3, h4, h5, h6⟩
  · exact .inl h
  · exact .inr ⟨g, cap, cur, h1, h2, h3, h4, h5, h6.mono k⟩
theorem D8.at_ {cur : Array Value} {g : Nat} {fz : Nat × Nat} (h : D8 d I xs (cur.toList.take (xs.length * d.sz))) (hM : (Mem.one g (.cells cur e fz)).le J) (hI : I.le J) (j : Nat) (x : α) (hx : xs[j]? = some x) : At d J ((⟨g, 0, none⟩ : Addr).add (j * d.sz)) x := by
  refine ⟨_, d.mono hI (h.2 j x hx), fun i u hu => ?_⟩; rw [Addr.add_plain, Addr.add_plain]; refine Mem.cell_le hM ?_; rw [Mem.cell_one]; rw [List.getElem?_take] at hu; split at hu
  · rw [List.getElem?_drop, List.getElem?_take] at hu; split at hu
    · rw [Array.getElem?_toList] at hu; rw [Nat.zero_add]; exact hu
    · cases hu
  · cases hu
theorem Own.rd (h : Own d e M I v xs) (hM : M.le J) (hI : I.le J) : Rd d J v xs := by
  rcases h with ⟨rfl, rfl, _⟩ | ⟨g, cap, cur, rfl, rfl, h3, h4, h5, h6⟩
  · exact Rd.nil _ _
  · exact ⟨some ⟨g, 0, none⟩, cap, rfl, h3, by omega, fun _ => ⟨_, rfl, fun j x hx => h6.at_ hM hI j x hx⟩⟩
theorem Own.one (h : Own d e M I v xs) : v.oneCell' = true := by
  rcases h with ⟨rfl, _, _⟩ | ⟨g, cap, cur, rfl, _⟩ <;> rfl
theorem Own.cellsA (h : Own d e M I v xs) : v.cells = [v].toArray := by
  rcases h with ⟨rfl, _, _⟩ | ⟨g, cap, cur, rfl, _⟩ <;> rfl
theorem Own.cells (h : Own d e M I v xs) : v.cells.toList = [v] := by rw [h.cellsA]
theorem Own.bound (h : Own d e M I v xs) : xs.length ≤ maxLen := by
  rcases h with ⟨_, rfl, _⟩ | ⟨g, cap, cur, _, _, h3, h4, _, _⟩
  · exact Nat.zero_le _
  · omega
end
end Go.Gp
/- The words in which a Go function is told without memory: numbers, bytes, rows. -/
namespace Go.Gp
open Go
abbrev w64 (n : Int) : Int := IntKind.i64.wrap n
abbrev R7 (n : Int) : Int := IntKind.u64.wrap n
def T1 (n : Int) : UInt8 := UInt8.ofNat (n % 256).toNat
def C2 (n : Int) : UInt32 := UInt32.ofNat (n % 4294967296).toNat
def F0 (k : IntKind) (x y : Int) : Int := k.wrap ((BitVec.ofInt k.bits x &&& BitVec.ofInt k.bits y).toNat)
def bor (k : IntKind) (x y : Int) : Int := k.wrap ((BitVec.ofInt k.bits x ||| BitVec.ofInt k.bits y).toNat)
def A6o (k : IntKind) (x y : Int) : Int := k.wrap ((BitVec.ofInt k.bits x ^^^ BitVec.ofInt k.bits y).toNat)
def A7f (k : IntKind) (x y : Int) : Int := k.wrap ((BitVec.ofInt k.bits x &&& ~~~(BitVec.ofInt k.bits y)).toNat)
def shl (k : IntKind) (x y : Int) : Int := k.wrap (x * 2 ^ (min y.toNat k.bits))
def shr (k : IntKind) (x y : Int) : Int := x.fdiv (2 ^ (min y.toNat k.bits))
def mn (x y : Int) : Int := if y < x then y else x
def mx (x y : Int) : Int := if x < y then y else x
def ix {α : Type} (xs : List α) (i : Int) : Option α := if 0 ≤ i then xs[i.toNat]? else none
def st {α : Type} (xs : List α) (i : Int) (x : α) : Option (List α) := if 0 ≤ i ∧ i < (xs.length : Int) then some (xs.set i.toNat x) else none
def cut {α : Type} (xs : List α) (lo hi : Int) : Option (List α) := if 0 ≤ lo ∧ lo ≤ hi ∧ hi ≤ (xs.length : Int) then some ((xs.take hi.toNat).drop lo.toNat) else none
def app {α : Type} (lim : Nat) (xs ys : List α) : Option (List α) := if xs.length + ys.length ≤ lim then some (xs ++ ys) else none
def mk {α : Type} (lim : Nat) (n : Int) (x : α) : Option (List α) := if 0 ≤ n ∧ n ≤ (lim : Int) then some (List.replicate n.toNat x) else none
def quo (x y : Int) : Option Int := if y = 0 then none else some (w64 (x.tdiv y))
def rem (x y : Int) : Option Int := if y = 0 then none else some (x.tmod y)
def del {α : Type} (xs : List α) (i j : Int) : Option (List α) := if 0 ≤ i ∧ i ≤ j ∧ j ≤ (xs.length : Int) then some (xs.take i.toNat ++ xs.drop j.toNat) else none
def cpy {α : Type} (xs : List α) (lo q : Nat) (ys : List α) : List α := xs.take lo ++ ys.take (min ys.length q) ++ xs.drop (lo + min ys.length q)
def A3D (p : Prop) [Decidable p] : Option Unit := if p then some () else none
theorem A2W {α : Type} {xs : List α} {i : Int} {x : α} (h : ix xs i = some x) : 0 ≤ i ∧ xs[i.toNat]? = some x := by
  unfold ix at h; split at h
  · exact ⟨‹_›, h⟩
  · cases h
theorem A5K {α : Type} {xs : List α} {i : Int} {x : α} (h : ix xs i = some x) : i.toNat < xs.length := (List.getElem?_eq_some_iff.1 (A2W h).2).1
theorem A7H {α : Type} {xs ys : List α} {lo hi : Int} (h : cut xs lo hi = some ys) : (0 ≤ lo ∧ lo ≤ hi ∧ hi ≤ (xs.length : Int)) ∧ ys = (xs.take hi.toNat).drop lo.toNat := by
  unfold cut at h; split at h
  · cases h; exact ⟨‹_›, rfl⟩
  · cases h
theorem A7N {α : Type} {lim : Nat} {xs ys zs : List α} (h : app lim xs ys = some zs) : xs.length + ys.length ≤ lim ∧ zs = xs ++ ys := by
  unfold app at h; split at h
  · cases h; exact ⟨‹_›, rfl⟩
  · cases h
theorem A0H {p : Prop} [Decidable p] {u : Unit} (h : A3D p = some u) : p := by
  unfold A3D at h; split at h
  · assumption
  · cases h
def O0 (n : Int) : Prop := -9223372036854775808 ≤ n ∧ n ≤ 9223372036854775807
theorem T9 {n : Int} (h : -9223372036854775808 ≤ n ∧ n ≤ 9223372036854775807) : w64 n = n := by
  show (if (true && decide (n % 18446744073709551616 ≥ 9223372036854775808)) = true then n % 18446744073709551616 - 18446744073709551616 else n % 18446744073709551616) = n; split <;> rename_i h0 <;> simp only [Bool.true_and, decide_eq_true_eq] at h0 <;> omega
theorem A5y (n : Int) : ((T1 n).toNat : Int) = n % 256 := by
  unfold T1; rw [UInt8.toNat_ofNat']; omega
theorem A0W (n : Int) : IntKind.u8.wrap n = ((T1 n).toNat : Int) := by
  rw [A5y]; simp [IntKind.wrap, IntKind.bits, IntKind.signed]
theorem A0R (n : Int) : ((C2 n).toNat : Int) = n % 4294967296 := by
  unfold C2; rw [UInt32.toNat_ofNat']; omega
theorem A1a (n : Int) : IntKind.u32.wrap n = ((C2 n).toNat : Int) := by
  rw [A0R]; simp [IntKind.wrap, IntKind.bits, IntKind.signed]
theorem A9V (c : UInt8) : w64 (c.toNat : Int) = (c.toNat : Int) := T9 (by have := c.toNat_lt; omega)
theorem A7k (c : UInt8) : T1 (c.toNat : Int) = c := by
  apply UInt8.toNat_inj.1; have := A5y (c.toNat : Int); have := c.toNat_lt; omega
theorem A4H (c : UInt32) : C2 (c.toNat : Int) = c := by
  apply UInt32.toNat_inj.1; have := A0R (c.toNat : Int); have := c.toNat_lt; omega
theorem A5H (c : UInt8) : BitVec.ofInt 8 (c.toNat : Int) = c.toBitVec := by
  apply BitVec.eq_of_toNat_eq; simp
theorem A3x (c : UInt32) : BitVec.ofInt 32 (c.toNat : Int) = c.toBitVec := by
  apply BitVec.eq_of_toNat_eq; simp
theorem B0H (x y : UInt8) : F0 .u8 (x.toNat : Int) (y.toNat : Int) = ((x &&& y).toNat : Int) := by
  show IntKind.u8.wrap (((BitVec.ofInt 8 (x.toNat : Int) &&& BitVec.ofInt 8 (y.toNat : Int)).toNat : Nat) : Int) = _; rw [A5H, A5H, A0W]; exact congrArg (fun c : UInt8 => (c.toNat : Int)) (A7k (x &&& y))
theorem B0G (x y : UInt8) : A6o .u8 (x.toNat : Int) (y.toNat : Int) = ((x ^^^ y).toNat : Int) := by
  show IntKind.u8.wrap (((BitVec.ofInt 8 (x.toNat : Int) ^^^ BitVec.ofInt 8 (y.toNat : Int)).toNat : Nat) : Int) = _; rw [A5H, A5H, A0W]; exact congrArg (fun c : UInt8 => (c.toNat : Int)) (A7k (x ^^^ y))
theorem A9P (x y : UInt32) : F0 .u32 (x.toNat : Int) (y.toNat : Int) = ((x &&& y).toNat : Int) := by
  show IntKind.u32.wrap (((BitVec.ofInt 32 (x.toNat : Int) &&& BitVec.ofInt 32 (y.toNat : Int)).toNat : Nat) : Int) = _; rw [A3x, A3x, A1a]; exact congrArg (fun c : UInt32 => (c.toNat : Int)) (A4H (x &&& y))
theorem A9a (x y : UInt32) : bor .u32 (x.toNat : Int) (y.toNat : Int) = ((x ||| y).toNat : Int) := by
  show IntKind.u32.wrap (((BitVec.ofInt 32 (x.toNat : Int) ||| BitVec.ofInt 32 (y.toNat : Int)).toNat : Nat) : Int) = _; rw [A3x, A3x, A1a]; exact congrArg (fun c : UInt32 => (c.toNat : Int)) (A4H (x ||| y))
theorem A4j (x y : UInt32) : A6o .u32 (x.toNat : Int) (y.toNat : Int) = ((x ^^^ y).toNat : Int) := by
  show IntKind.u32.wrap (((BitVec.ofInt 32 (x.toNat : Int) ^^^ BitVec.ofInt 32 (y.toNat : Int)).toNat : Nat) : Int) = _; rw [A3x, A3x, A1a]; exact congrArg (fun c : UInt32 => (c.toNat : Int)) (A4H (x ^^^ y))
theorem A3M (x : UInt32) (n : Int) : shr .u32 (x.toNat : Int) n = ((C2 (shr .u32 (x.toNat : Int) n)).toNat : Int) := by
  rw [A0R]; have h : 0 ≤ shr .u32 (x.toNat : Int) n ∧ shr .u32 (x.toNat : Int) n ≤ (x.toNat : Int) := by
    unfold shr; have hp : (0 : Int) < 2 ^ (min n.toNat 32) := Int.pow_pos (by decide); rw [show IntKind.u32.bits = 32 from rfl, Int.fdiv_eq_ediv_of_nonneg _ (Int.le_of_lt hp)]; exact ⟨Int.ediv_nonneg (by omega) (Int.le_of_lt hp), Int.ediv_le_self _ (by omega)⟩
  have := x.toNat_lt; omega
def S4 {α β : Type} (f : (α → Option β) → α → Option β) : Nat → α → Option β
  | 0 => fun _ => none
  | k + 1 => f (S4 f k)
theorem X5 {α β : Type} (f : (α → Option β) → α → Option β) (k : Nat) : S4 f (k + 1) = f (S4 f k) := rfl
def slt : List UInt8 → List UInt8 → Bool
  | [], [] => false
  | [], _ :: _ => true
  | _ :: _, [] => false
  | a :: x, b :: y => decide (a < b) || (a == b && slt x y)
def A4a : List UInt8 → List UInt8 → Int
  | [], [] => 0
  | [], _ :: _ => -1
  | _ :: _, [] => 1
  | a :: x, b :: y => if a < b then -1 else if b < a then 1 else A4a x y
end Go.Gp
