/- How a law's arguments are read. -/
import Derived.Test.YtploijfgnnkddaaGreatLc
import Derived.ProofKit
import Derived.OpenShut
import Derived.ChangeOld
import Derived.Carry
import Derived.SizedLaws
import Derived.Deep.CondSized
/- How a law's arguments are read out of what the statement hands in. -/
namespace Go.Gp
open Go
def TR {α : Type} (P : Program) (t : TypeId) (kd : Kd α) (ok : α → Prop) : Prop :=
  ∀ {H : Type} (enc : TypeId × Value → H) (w : World) (base : Nat) (spare : Nat → Bool) (held : Bool) (fuel : Nat) (cs : List Value) (d : DataW H) (ps : List MemPlace),
    DataW.trod enc P w base spare held fuel t cs = some (d, ps) → (∀ n ∈ d.weights P t, n ≤ reachBytes) → ∃ u, kd.K (hp w) u cs ∧ ok u
section
variable {P : Program} {t e : TypeId}
theorem B1A {n : Int} (h : (Lit.int .i64 n).wf = true) : O0 n := by
  simp only [Lit.wf, Bool.and_eq_true, decide_eq_true_eq] at h; exact h
theorem B2m {n : Int} (h : (Lit.int .u8 n).wf = true) : 0 ≤ n ∧ n ≤ 255 := by
  simp only [Lit.wf, Bool.and_eq_true, decide_eq_true_eq] at h; exact h
theorem Z7 (hU : P.underlying t = some (.int .i64)) : TR P t (Kd.int .i64) O0 := fun enc w base spare held fuel cs d ps h _ => by
  obtain ⟨n, rfl, _, hw⟩ := DataW.trod_int hU h; exact ⟨n, rfl, B1A hw⟩
theorem A6Z (hU : P.underlying t = some (.int .u8)) : TR P t Kd.u8 (fun _ => True) := fun enc w base spare held fuel cs d ps h _ => by
  obtain ⟨n, rfl, _, hw⟩ := DataW.trod_int hU h; have := B2m hw; refine ⟨UInt8.ofNat n.toNat, ?_, trivial⟩; show [Value.int .u8 n] = [Value.int .u8 ((UInt8.ofNat n.toNat).toNat : Int)]; rw [UInt8.toNat_ofNat']
  congr 2
  omega
theorem B0N (hU : P.underlying t = some .bool) : TR P t Kd.bool (fun _ => True) := fun enc w base spare held fuel cs d ps h _ => by
  obtain ⟨b, rfl, _⟩ := DataW.trod_bool hU h; exact ⟨b, rfl, trivial⟩
theorem A5R {H : Type} {ds : List (DataW H)} {d : DataW H} (hd : d ∈ ds) {n : Nat} (hn : n ∈ d.weights P e) : n ∈ DataW.weightsAll P e ds := by
  induction ds with
  | nil => cases hd
  | cons x r ih =>
    rw [DataW.weightsAll, List.mem_append]
    rcases List.mem_cons.1 hd with rfl | hd
    · exact .inl hn
    · exact .inr (ih hd)
theorem B0w {w : World} {base n : Nat} {a : Addr} {cs : List Value} (h : w.cells? base a n = some cs) : ∀ (i : Nat) u, cs[i]? = some u → w.cell? (a.add i) = some u := by
  intro i u hu; unfold World.cells? at h; split at h
  · have hl : cs.length = n := by simpa using mapM_some_length h
    have hi : i < n := by
      have := (List.getElem?_eq_some_iff.1 hu).1; omega
    have := mapM_some_get h i i (by simp [hi]); rw [this, hu]
  · cases h
def TRs {β : Type} (P : Program) (fs : List Field) (off : Nat) (kd : Kd β) (ok : β → Prop) : Prop :=
  ∀ {H : Type} (enc : TypeId × Value → H) (w : World) (base : Nat) (spare : Nat → Bool) (held : Bool) (n : Nat) (cs : List Value) (xs : List (DataW H × List MemPlace)),
    xs.length = fs.length → (∀ (i : Nat) (f : Field), fs[i]? = some f → DataW.trod enc P w base spare held n f.type ((cs.drop f.offset).take (P.cellsOf f.type)) = xs[i]?) →
    (∀ m ∈ DataW.weightsEach P (fs.map (·.type)) (xs.map (·.1)), m ≤ reachBytes) → ∃ u, kd.K (hp w) u ((cs.drop off).take kd.sz) ∧ ok u
theorem trod_lt' {H : Type} {enc : TypeId × Value → H} {w : World} {base : Nat} {spare : Nat → Bool} {held : Bool} {v : Value} {d : DataW H} {ps : List MemPlace}
    (h : DataW.Trod enc P w base spare held t v d ps) : ∀ x ∈ ps, x.block < w.heap.size := by
  obtain ⟨fuel, h⟩ := h; exact DataW.trod_lt fuel _ _ _ h
theorem A7L {w w' : World} {l : List Mem} (h : Sep w w' l (hp w)) : RowKit.Below w.heap.size w w' :=
  ⟨h.os, h.tape, h.output, h.size, fun k hk => by
    have : w.heap[k]? = some w.heap[k] := Array.getElem?_eq_getElem hk; rw [this]; exact h.old k _ this⟩
theorem A9o (w : World) : Sep w w [] (hp w) := ⟨rfl, rfl, rfl, Nat.le_refl _, Mem.le.refl _, fun i => by simp [Mem.no_le], fun i k hk => by simp [Mem.no] at hk, fun i j k _ hk => by simp [Mem.no] at hk, fun i => by simpa using Mem.Cl.no⟩
end
end Go.Gp
/- How a law's arguments are read where what is read is bounded in all. -/
namespace Go.Gp
open Go
structure B0z (b : ∀ {H : Type}, DataW H → Nat) : Prop where
  sl : ∀ {H : Type} (es rs : List (DataW H)), es.length ≤ b (.slice es rs) ∧ ∀ e ∈ es, b e ≤ b (.slice es rs)
  ag : ∀ {H : Type} (ps : List (DataW H)), ∀ e ∈ ps, b e ≤ b (.agg ps)
def TRb {α : Type} (b : ∀ {H : Type}, DataW H → Nat) (B : Nat) (P : Program) (t : TypeId) (kd : Kd α) (ok : α → Prop) : Prop :=
  ∀ {H : Type} (enc : TypeId × Value → H) (w : World) (base : Nat) (spare : Nat → Bool) (held : Bool) (fuel : Nat) (cs : List Value) (d : DataW H) (ps : List MemPlace),
    DataW.trod enc P w base spare held fuel t cs = some (d, ps) → (∀ n ∈ d.weights P t, n ≤ reachBytes) → b d ≤ B → ∃ u, kd.K (hp w) u cs ∧ ok u
section
variable {P : Program} {t e : TypeId} {b : ∀ {H : Type}, DataW H → Nat} {B : Nat}
theorem TR.bulk {α : Type} {kd : Kd α} {ok : α → Prop} (h : TR P t kd ok) : TRb b B P t kd ok := fun enc w base spare held fuel cs d ps h1 h2 _ => h enc w base spare held fuel cs d ps h1 h2
theorem A1C {α : Type} {kd : Kd α} {ok : α → Prop} (hb : B0z b) (hU : P.underlying t = some (.slice e)) (hc : P.cellsOf e = kd.sz) (he : TRb b B P e kd ok) :
    TRb b B P t (Kd.slice kd) (fun xs => xs.length ≤ B ∧ ∀ x ∈ xs, ok x) := fun enc w base spare held fuel cs d ps h hz hB => by
  rcases DataW.trod_slice hU h with ⟨rfl, _⟩ | ⟨a, len, cap, elems, rest, n, _, rfl, hx, hb', hl, hm, hlen, hel, _⟩
  · exact ⟨[], ⟨_, rfl, Rd.nil _ _⟩, by simp, by simp⟩
  · injection hx with hx _
    subst hx; obtain ⟨b1, b2⟩ := hb.sl (elems.map (·.1)) (rest.map (·.1)); have each : ∀ i : Nat, i < len → ∃ u cs, kd.K (hp w) u cs ∧ ok u ∧ w.cells? base (a.add (i * P.cellsOf e)) (P.cellsOf e) = some cs := fun i hi => by
      have h1 := hel i hi; rw [List.getElem?_eq_getElem (by omega)] at h1; obtain ⟨cs, h2, h3⟩ := Option.bind_eq_some_iff.1 h1; have hmem : (elems[i]'(by omega)).1 ∈ elems.map (·.1) := List.mem_map.2 ⟨elems[i]'(by omega), List.getElem_mem _, rfl⟩
      obtain ⟨u, h4, h5⟩ := he enc w base spare held n cs _ _ h3 (fun m hmm => hz m (by
        rw [DataW.weights, hU]; exact List.mem_cons_of_mem _ (List.mem_append.2 (.inl (A5R hmem hmm))))) (Nat.le_trans (b2 _ hmem) hB)
      exact ⟨u, cs, h4, h5, h2⟩
    have sized : len ≤ B := by
      rw [List.length_map, hlen] at b1; exact Nat.le_trans b1 hB
    clear hel h hz; obtain ⟨xs, hxl, hxs⟩ : ∃ xs : List α, xs.length = len ∧ ∀ (i : Nat) x, xs[i]? = some x → ok x ∧ ∃ cs, kd.K (hp w) x cs ∧ w.cells? base (a.add (i * P.cellsOf e)) (P.cellsOf e) = some cs := by
      refine ⟨List.ofFn fun i : Fin len => (each i i.2).choose, by simp, fun i x hx => ?_⟩; rw [List.getElem?_ofFn] at hx; split at hx
      · rename_i hi
        cases hx; obtain ⟨cs, h1, h2, h3⟩ := (each i hi).choose_spec; exact ⟨h2, cs, h1, h3⟩
      · cases hx
    refine ⟨xs, ⟨_, rfl, some a, cap, by rw [hxl], by omega, by omega, fun _ => ⟨a, rfl, fun j x hj => ?_⟩⟩, by rw [hxl]; exact sized, fun x hx => ?_⟩
    · obtain ⟨_, cs, h1, h2⟩ := hxs j x hj; rw [hc] at h2; exact ⟨cs, h1, fun i u hu => B0w h2 i u hu⟩
    · obtain ⟨j, hj⟩ := List.getElem?_of_mem hx; exact (hxs j x hj).1
def A9d {β : Type} (b : ∀ {H : Type}, DataW H → Nat) (B : Nat) (P : Program) (fs : List Field) (off : Nat) (kd : Kd β) (ok : β → Prop) : Prop :=
  ∀ {H : Type} (enc : TypeId × Value → H) (w : World) (base : Nat) (spare : Nat → Bool) (held : Bool) (n : Nat) (cs : List Value) (xs : List (DataW H × List MemPlace)),
    xs.length = fs.length → (∀ (i : Nat) (f : Field), fs[i]? = some f → DataW.trod enc P w base spare held n f.type ((cs.drop f.offset).take (P.cellsOf f.type)) = xs[i]?) →
    (∀ m ∈ DataW.weightsEach P (fs.map (·.type)) (xs.map (·.1)), m ≤ reachBytes) → (∀ x ∈ xs, b x.1 ≤ B) → ∃ u, kd.K (hp w) u ((cs.drop off).take kd.sz) ∧ ok u
theorem A5i {β : Type} {f : Field} {off : Nat} {kd : Kd β} {ok : β → Prop} (ho : f.offset = off) (hc : P.cellsOf f.type = kd.sz) (h : TRb b B P f.type kd ok) : A9d b B P [f] off kd ok := fun enc w base spare held n cs xs hl hx hz hB => by
  have h0 := hx 0 f rfl
  match xs, hl with
  | [x], _ =>
    rw [ho, hc] at h0
    exact h enc w base spare held n _ x.1 x.2 (by simpa using h0) (fun m hm => hz m (by
      simp only [List.map_cons, List.map_nil, DataW.weightsEach, List.append_nil]; exact hm)) (hB x (by simp))
theorem U1 {β γ : Type} {f : Field} {fs : List Field} {off : Nat} {kd : Kd β} {ok : β → Prop} {kc : Kd γ} {okc : γ → Prop} (ho : f.offset = off) (hc : P.cellsOf f.type = kd.sz) (h : TRb b B P f.type kd ok) (k : A9d b B P fs (off + kd.sz) kc okc) :
    A9d b B P (f :: fs) off (Kd.pair kd kc) (fun u => ok u.1 ∧ okc u.2) := fun enc w base spare held n cs xs hl hx hz hB => by
  have h0 := hx 0 f rfl
  match xs, hl with
  | x :: xs, hl =>
    rw [ho, hc] at h0
    obtain ⟨u, h1, h2⟩ := h enc w base spare held n _ x.1 x.2 (by simpa using h0) (fun m hm => hz m (by
      simp only [List.map_cons, DataW.weightsEach]; exact List.mem_append.2 (.inl hm))) (hB x (by simp))
    obtain ⟨v, h3, h4⟩ := k enc w base spare held n cs xs (by simpa using hl) (fun i g hg => by
      have := hx (i + 1) g (by simpa using hg)
      simpa using this) (fun m hm => hz m (by
      simp only [List.map_cons, DataW.weightsEach]; exact List.mem_append.2 (.inr hm))) (fun y hy => hB y (List.mem_cons_of_mem _ hy))
    refine ⟨(u, v), ⟨_, _, ?_, h1, h3⟩, h2, h4⟩; show (cs.drop off).take (kd.sz + kc.sz) = _; rw [List.take_add, List.drop_drop]
theorem A4o {α β : Type} {fs : Array Field} {kd : Kd β} {ok : β → Prop} (hb : B0z b) (f : α → β) (g : β → α) (hg : ∀ u, f (g u) = u) (hU : P.underlying t = some (.struct fs)) (hc : P.cellsOf t = kd.sz) (h : A9d b B P fs.toList 0 kd ok) :
    TRb b B P t (Kd.iso kd f) (fun x => ok (f x)) := fun enc w base spare held fuel cs d ps hd hz hB => by
  obtain ⟨xs, n, _, hx, hl, hlen, hf⟩ := DataW.trod_struct hU hd
  injection hx with hx hx2
  subst hx
  obtain ⟨u, h1, h2⟩ := h enc w base spare held n cs xs (by simpa using hlen) (fun i g hg => hf i g (by simpa using hg)) (fun m hm => hz m (by
    rw [DataW.weights, hU]; exact hm)) (fun x hx => Nat.le_trans (hb.ag _ _ (List.mem_map.2 ⟨x, hx, rfl⟩)) hB)
  rw [List.drop_zero, List.take_of_length_le (by omega)] at h1; refine ⟨g u, ?_, by show ok (f (g u)); rw [hg]; exact h2⟩; show kd.K (hp w) (f (g u)) cs; rw [hg]; exact h1
theorem A3l {H : Type} {α : Type} {kd : Kd α} {ok : α → Prop} (hT : TRb b B P t kd ok) {enc : TypeId × Value → H} {w : World} {base : Nat} {spare : Nat → Bool} {held : Bool} {v : Value} {d : DataW H} {ps : List MemPlace}
    (h : DataW.Trod enc P w base spare held t v d ps) (hz : ∀ n ∈ d.weights P t, n ≤ reachBytes) (hB : b d ≤ B) : ∃ u, kd.K (hp w) u v.cells.toList ∧ ok u := by
  obtain ⟨fuel, h⟩ := h; exact hT enc w base spare held fuel _ d ps h hz hB
end
end Go.Gp
