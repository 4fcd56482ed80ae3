/- How a law's arguments are read. -/
import Derived.Test.YtploijfgnnkddaaLc
import Derived.ProofKit
import Derived.OpenShut
import Derived.ChangeOld
import Derived.Carry
import Derived.SizedLaws
/- How a law's arguments are read out of what the statement hands in. -/
namespace Go.Gp
open Go
/-- What is read as data of type t is told by kd, and is ok. -/
def TR {α : Type} (P : Program) (t : TypeId) (kd : Kd α) (ok : α → Prop) : Prop :=
  ∀ {H : Type} (enc : TypeId × Value → H) (w : World) (base : Nat) (spare : Nat → Bool) (held : Bool) (fuel : Nat) (cs : List Value) (d : DataW H) (ps : List MemPlace),
    DataW.trod enc P w base spare held fuel t cs = some (d, ps) → (∀ n ∈ d.weights P t, n ≤ reachBytes) → ∃ u, kd.K (hp w) u cs ∧ ok u
section
variable {P : Program} {t e : TypeId}
theorem wf_i64 {n : Int} (h : (Lit.int .i64 n).wf = true) : i64ok n := by
  simp only [Lit.wf, Bool.and_eq_true, decide_eq_true_eq] at h
  exact h
theorem tr_int (hU : P.underlying t = some (.int .i64)) : TR P t (Kd.int .i64) i64ok := fun enc w base spare held fuel cs d ps h _ => by
  obtain ⟨n, rfl, _, hw⟩ := DataW.trod_int hU h
  exact ⟨n, rfl, wf_i64 hw⟩
theorem weightsAll_mem {H : Type} {ds : List (DataW H)} {d : DataW H} (hd : d ∈ ds) {n : Nat} (hn : n ∈ d.weights P e) : n ∈ DataW.weightsAll P e ds := by
  induction ds with
  | nil => cases hd
  | cons x r ih =>
    rw [DataW.weightsAll, List.mem_append]
    rcases List.mem_cons.1 hd with rfl | hd
    · exact .inl hn
    · exact .inr (ih hd)
theorem cells_at {w : World} {base n : Nat} {a : Addr} {cs : List Value} (h : w.cells? base a n = some cs) : ∀ (i : Nat) u, cs[i]? = some u → w.cell? (a.add i) = some u := by
  intro i u hu
  unfold World.cells? at h
  split at h
  · have hl : cs.length = n := by simpa using mapM_some_length h
    have hi : i < n := by
      have := (List.getElem?_eq_some_iff.1 hu).1
      omega
    have := mapM_some_get h i i (by simp [hi])
    rw [this, hu]
  · cases h
theorem tr_slice {α : Type} {kd : Kd α} {ok : α → Prop} (hU : P.underlying t = some (.slice e)) (hc : P.cellsOf e = kd.sz) (hb1 : Nat.ble 1 (P.bytesOf e) = true) (he : TR P e kd ok) :
    TR P t (Kd.slice kd) (fun xs => xs.length ≤ 140737488351232 ∧ ∀ x ∈ xs, ok x) := fun enc w base spare held fuel cs d ps h hz => by
  rcases DataW.trod_slice hU h with ⟨rfl, _⟩ | ⟨a, len, cap, elems, rest, n, _, rfl, hx, hb, hl, hm, hlen, hel, _⟩
  · exact ⟨[], ⟨_, rfl, Rd.nil _ _⟩, by simp, by simp⟩
  · injection hx with hx _
    subst hx
    have each : ∀ i : Nat, i < len → ∃ u cs, kd.K (hp w) u cs ∧ ok u ∧ w.cells? base (a.add (i * P.cellsOf e)) (P.cellsOf e) = some cs := fun i hi => by
      have h1 := hel i hi
      rw [List.getElem?_eq_getElem (by omega)] at h1
      obtain ⟨cs, h2, h3⟩ := Option.bind_eq_some_iff.1 h1
      obtain ⟨u, h4, h5⟩ := he enc w base spare held n cs _ _ h3 (fun m hmm => hz m (by
        rw [DataW.weights, hU]
        refine List.mem_cons_of_mem _ (List.mem_append.2 (.inl (weightsAll_mem ?_ hmm)))
        exact List.mem_map.2 ⟨elems[i]'(by omega), List.getElem_mem _, rfl⟩))
      exact ⟨u, cs, h4, h5, h2⟩
    have sized : len ≤ 140737488351232 := by
      have := hz ((elems.map (·.1)).length + (rest.map (·.1)).length |> (· * P.bytesOf e)) (by
        rw [DataW.weights, hU]
        exact List.mem_cons_self ..)
      simp only [List.length_map, hlen] at this
      have hb1 := Nat.le_of_ble_eq_true hb1
      have h2 := Nat.le_trans (Nat.mul_le_mul_right (P.bytesOf e) (Nat.le_add_right len (rest.map (·.1)).length)) (by simpa using this)
      exact Nat.le_trans (Nat.le_mul_of_pos_right len hb1) h2
    clear hel h hz
    obtain ⟨xs, hxl, hxs⟩ : ∃ xs : List α, xs.length = len ∧ ∀ (i : Nat) x, xs[i]? = some x → ok x ∧ ∃ cs, kd.K (hp w) x cs ∧ w.cells? base (a.add (i * P.cellsOf e)) (P.cellsOf e) = some cs := by
      refine ⟨List.ofFn fun i : Fin len => (each i i.2).choose, by simp, fun i x hx => ?_⟩
      rw [List.getElem?_ofFn] at hx
      split at hx
      · rename_i hi
        cases hx
        obtain ⟨cs, h1, h2, h3⟩ := (each i hi).choose_spec
        exact ⟨h2, cs, h1, h3⟩
      · cases hx
    refine ⟨xs, ⟨_, rfl, some a, cap, by rw [hxl], by omega, by omega, fun _ => ⟨a, rfl, fun j x hj => ?_⟩⟩, by rw [hxl]; exact sized, fun x hx => ?_⟩
    · obtain ⟨_, cs, h1, h2⟩ := hxs j x hj
      rw [hc] at h2
      exact ⟨cs, h1, fun i u hu => cells_at h2 i u hu⟩
    · obtain ⟨j, hj⟩ := List.getElem?_of_mem hx
      exact (hxs j x hj).1
/-- What is read as a struct's fields, one behind the other. -/
def TRs {β : Type} (P : Program) (fs : List Field) (off : Nat) (kd : Kd β) (ok : β → Prop) : Prop :=
  ∀ {H : Type} (enc : TypeId × Value → H) (w : World) (base : Nat) (spare : Nat → Bool) (held : Bool) (n : Nat) (cs : List Value) (xs : List (DataW H × List MemPlace)),
    xs.length = fs.length → (∀ (i : Nat) (f : Field), fs[i]? = some f → DataW.trod enc P w base spare held n f.type ((cs.drop f.offset).take (P.cellsOf f.type)) = xs[i]?) →
    (∀ m ∈ DataW.weightsEach P (fs.map (·.type)) (xs.map (·.1)), m ≤ reachBytes) → ∃ u, kd.K (hp w) u ((cs.drop off).take kd.sz) ∧ ok u
/-- An argument: what it is, behind the call's begin. -/
theorem arg_trod {H : Type} {α : Type} {kd : Kd α} {ok : α → Prop} (hT : TR P t kd ok) {enc : TypeId × Value → H} {w : World} {base : Nat} {spare : Nat → Bool} {held : Bool} {v : Value} {d : DataW H} {ps : List MemPlace}
    (h : DataW.Trod enc P w base spare held t v d ps) (hz : ∀ n ∈ d.weights P t, n ≤ reachBytes) : ∃ u, kd.K (hp w) u v.cells.toList ∧ ok u := by
  obtain ⟨fuel, h⟩ := h
  exact hT enc w base spare held fuel _ d ps h hz
theorem trod_lt' {H : Type} {enc : TypeId × Value → H} {w : World} {base : Nat} {spare : Nat → Bool} {held : Bool} {v : Value} {d : DataW H} {ps : List MemPlace}
    (h : DataW.Trod enc P w base spare held t v d ps) : ∀ x ∈ ps, x.block < w.heap.size := by
  obtain ⟨fuel, h⟩ := h
  exact DataW.trod_lt fuel _ _ _ h
theorem below_of_sep {w w' : World} {l : List Mem} (h : Sep w w' l (hp w)) : RowKit.Below w.heap.size w w' :=
  ⟨h.os, h.tape, h.output, h.size, fun k hk => by
    have : w.heap[k]? = some w.heap[k] := Array.getElem?_eq_getElem hk
    rw [this]
    exact h.old k _ this⟩
theorem sep_start (w : World) : Sep w w [] (hp w) := ⟨rfl, rfl, rfl, Nat.le_refl _, Mem.le.refl _, fun i => by simp [Mem.no_le], fun i k hk => by simp [Mem.no] at hk, fun i j k _ hk => by simp [Mem.no] at hk, fun i => by simpa using Mem.Cl.no⟩
end
end Go.Gp
