/- Single steps of a walk. -/
import Derived.Test.YtploijfgnnkddaaGreatLa
import Derived.Lib.FrozenHead
import Derived.Laws.BytesArg
/- One step of a function's walk each: what an operation does to the temporaries and to the memory. -/
namespace Go.Gp
open Go
abbrev iV (n : Int) : Value := .int .i64 n
abbrev nS : Value := .slice none 0 0
def U0 : Nat → List (Nat × Value) → Option Value
  | _, [] => none
  | t, (i, v) :: r => match Nat.beq t i with
    | true => some v
    | false => U0 t r
theorem A3U (t i : Nat) (v : Value) (r : List (Nat × Value)) : U0 t ((i, v) :: r) = if t = i then some v else U0 t r := by
  show (match Nat.beq t i with | true => some v | false => U0 t r) = _
  by_cases h : t = i
  · subst h; simp
  · rw [if_neg h]; have : Nat.beq t i = false := by
      cases hb : Nat.beq t i with
      | false => rfl
      | true => exact absurd (Nat.eq_of_beq_eq_true hb) h
    rw [this]
structure Fr (n : Nat) (a : Act) (m : List (Nat × Value)) : Prop where
  df : a.defers = []
  sz : a.tmps.size = n
  at_ : ∀ t v, U0 t m = some v → a.tmps[t]? = some v
def ev (m : List (Nat × Value)) : Operand → Option Value
  | .tmp t => U0 t m
  | .const v => some v
  | .global g => some (.pointer (some ⟨g, 0, none⟩))
  | .func f => some (.func (.func f) #[] #[])
def evs (m : List (Nat × Value)) : List Operand → Option (List Value)
  | [] => some []
  | x :: xs => match ev m x with
    | none => none
    | some v => match evs m xs with
      | none => none
      | some vs => some (v :: vs)
section
variable {n d : Nat} {a : Act} {m m' : List (Nat × Value)} {v : Value} {x : Operand}
theorem Fr.eval (h : Fr n a m) (hx : ev m x = some v) : a.eval x = v := by
  cases x with
  | tmp t =>
    have := h.at_ t v hx; simp [Act.eval, Array.getD_eq_getD_getElem?, this]
  | const u => exact Option.some.inj hx
  | global g => exact Option.some.inj hx
  | func f => exact Option.some.inj hx
theorem Fr.evals (h : Fr n a m) : ∀ {xs : List Operand} {vs : List Value}, evs m xs = some vs → xs.map a.eval = vs
  | [], vs, hx => Option.some.inj hx
  | x :: xs, vs, hx => by
    unfold evs at hx; split at hx
    · cases hx
    · rename_i u hu
      split at hx
      · cases hx
      · rename_i us hus
        cases hx; rw [List.map_cons, h.eval hu, h.evals hus]
theorem Fr.put (h : Fr n a m) (hd : d < n) : Fr n (a.put (some d) v) ((d, v) :: m) := by
  refine ⟨h.df, by simp [Act.put, h.sz], fun t u ht => ?_⟩; rw [A3U] at ht; show (a.tmps.setIfInBounds d v)[t]? = some u; rw [Array.getElem?_setIfInBounds]; split at ht
  · rename_i e
    subst e; rw [if_pos rfl, if_pos (by rw [h.sz]; exact hd)]; exact ht
  · rename_i e
    rw [if_neg (fun e' => e e'.symm)]; exact h.at_ t u ht
theorem Fr.mono (h : Fr n a m) (hm : ∀ t v, U0 t m' = some v → U0 t m = some v) : Fr n a m' := ⟨h.df, h.sz, fun t v ht => h.at_ t v (hm t v ht)⟩
def keep (ks : List Nat) (m : List (Nat × Value)) : List (Nat × Value) := ks.filterMap fun k => (U0 k m).map fun v => (k, v)
theorem A9D (ks : List Nat) (m : List (Nat × Value)) (t : Nat) (v : Value) (h : U0 t (keep ks m) = some v) : U0 t m = some v := by
  induction ks with
  | nil => simp [keep, U0] at h
  | cons k ks ih =>
    unfold keep at h; rw [List.filterMap_cons] at h
    cases hk : U0 k m with
    | none => rw [hk] at h; exact ih h
    | some u =>
      rw [hk] at h; simp only [Option.map_some] at h; rw [A3U] at h; split at h
      · rename_i e; subst e; cases h; exact hk
      · exact ih h
theorem Fr.keep (h : Fr n a m) (ks : List Nat) : Fr n a (keep ks m) := h.mono (A9D ks m)
def A7E (i : Nat) : List Value → List (Nat × Value)
  | [] => []
  | v :: vs => (i, v) :: A7E (i + 1) vs
theorem A9E (vs : List Value) : ∀ (i t : Nat) (v : Value), U0 t (A7E i vs) = some v → i ≤ t ∧ vs[t - i]? = some v := by
  induction vs with
  | nil => intro i t v h; simp [A7E, U0] at h
  | cons u vs ih =>
    intro i t v h; rw [A7E, A3U] at h; split at h
    · rename_i e; subst e; simp; exact Option.some.inj h
    · obtain ⟨h1, h2⟩ := ih (i + 1) t v h; have : t - i = (t - (i + 1)) + 1 := by omega
      rw [this, List.getElem?_cons_succ]; exact ⟨by omega, h2⟩
end
def Ret (R : Value → World → Prop) (e : Ending) (w : World) : Prop := ∃ v, e = .returned v ∧ R v w
theorem E2 {P : Program} {f : FuncId} {fn : Func} {c : Code} {w : World} {R : Ending → World → Prop} {n : Nat} (vs : List Value)
    (hf : P.funcs[f]? = some fn) (hb : fn.body = some c) (hn : fn.ntmps = n) (hl : Nat.ble vs.length n = true)
    (k : ∀ a, Fr n a (A7E 0 vs) → c.wp P (bodyPost P fn R) a w) : Calls P f vs.toArray w R := by
  have hl := Nat.le_of_ble_eq_true hl; refine calls_of_wp hf hb (k _ ⟨rfl, ?_, fun t v ht => ?_⟩)
  · simp [hn]; omega
  · obtain ⟨_, h2⟩ := A9E vs 0 t v ht; rw [Nat.sub_zero] at h2; have hlt := (List.getElem?_eq_some_iff.1 h2).1; simp only; rw [Array.getElem?_append_left (by simpa using hlt)]
    simpa using h2
inductive A5w (P : Program) (m : List (Nat × Value)) (w : World) : List ResultVar → List Value → Prop where
  | nil : A5w P m w [] []
  | tmp {t : Tmp} {v : Value} {rs vs} : U0 t m = some v → A5w P m w rs vs → A5w P m w (.tmp t :: rs) (v :: vs)
  | cell {t : Tmp} {T : TypeId} {ad : Addr} {v : Value} {rs vs} : U0 t m = some (.pointer (some ad)) → (loadVar T ad).run P w = .ok v w → A5w P m w rs vs → A5w P m w (.cell t T :: rs) (v :: vs)
def A8E (tmps : Array Value) : ResultVar → Sem Value
  | .tmp t => pure (tmps.getD t undef)
  | .cell a t => do loadVar t (← asAddr (tmps.getD a undef))
theorem A9u {P : Program} {n : Nat} {a : Act} {m : List (Nat × Value)} {w : World} (h : Fr n a m) {rs : List ResultVar} {vs : List Value} (hr : A5w P m w rs vs) :
    (rs.mapM (A8E a.tmps)).run P w = .ok vs w := by
  induction hr with
  | nil => rfl
  | tmp hl _ ih =>
    rw [List.mapM_cons]; have := h.at_ _ _ hl; simp only [A8E, Sem.run_bind, Sem.run_pure, Result.andThen_ok, ih, Array.getD_eq_getD_getElem?, this, Option.getD_some]
  | cell hl hload _ ih =>
    rw [List.mapM_cons]; have := h.at_ _ _ hl; simp only [A8E, Sem.run_bind, Sem.run_pure, Result.andThen_ok, ih, Array.getD_eq_getD_getElem?, this, Option.getD_some, asAddr, hload]
def tup : List Value → Value
  | [v] => v
  | vs => .tuple vs.toArray
theorem I4 {P : Program} {fn : Func} {R : Ending → World → Prop} {n : Nat} {a : Act} {m : List (Nat × Value)} {w : World} (h : Fr n a m) {rs : List ResultVar} {vs : List Value}
    (hrs : fn.results = rs.toArray) (hr : A5w P m w rs vs) (hR : R (.returned (tup vs)) w) : bodyPost P fn R .ret a w := by
  refine ⟨h.df, tup vs, ?_, hR⟩; have e : results fn a.tmps = (do let us ← fn.results.mapM (A8E a.tmps); pure (if h : us.size = 1 then us[0] else .tuple us)) := rfl; rw [e, hrs, List.mapM_toArray, Sem.run_bind, Sem.run_map, A9u (P := P) h hr]; simp only [Result.andThen_ok, Sem.run_pure]
  cases vs with
  | nil => rfl
  | cons v vs => cases vs <;> rfl
theorem B2x {P : Program} {fn : Func} {R : Ending → World → Prop} {a : Act} {w : World} (h : bodyPost P fn R .ret a w) : bodyPost P fn R .normal a w := h
section
variable {P : Program} {Q : Exit → Act → World → Prop} {n : Nat} {a : Act} {m : List (Nat × Value)} {w : World}
theorem B9 {c : Operand} {x y : Code} {b : Bool} (h : Fr n a m) (hc : ev m c = some (.bool b)) (hb : b = true) (k : x.wp P Q a w) : (Code.cond c x y).wp P Q a w :=
  wp_cond_true (by rw [h.eval hc, hb]) k
theorem A9 {c : Operand} {x y : Code} {b : Bool} (h : Fr n a m) (hc : ev m c = some (.bool b)) (hb : b = false) (k : y.wp P Q a w) : (Code.cond c x y).wp P Q a w :=
  wp_cond_false (by rw [h.eval hc, hb]) k
theorem A8 {x y : Code} (h : ∀ K : Act → World → Prop, (∀ a w, y.wp P Q a w → K a w) → x.wp P (Exit.then K Q) a w) : (Code.seq x y).wp P Q a w := wp_seq_k h
theorem E8 {id : Nat} {c : Code} (h : c.wp P (Exit.inBlock id Q) a w) : (Code.block id c).wp P Q a w := wp_block h
theorem A0 {K : Act → World → Prop} (h : K a w) : Exit.then K Q .normal a w := h
theorem D0 {K : Act → World → Prop} {i : Nat} (h : Q (.exit i) a w) : Exit.then K Q (.exit i) a w := h
theorem F2 {K : Act → World → Prop} (h : Q .ret a w) : Exit.then K Q .ret a w := h
theorem E0 {i : Nat} (h : Q .normal a w) : Exit.inBlock i Q .normal a w := h
theorem T3 {i : Nat} (h : Q .ret a w) : Exit.inBlock i Q .ret a w := h
theorem I0 {i : Nat} (h : Q .normal a w) : Exit.inBlock i Q (.exit i) a w := by
  show if i = i then Q .normal a w else Q (.exit i) a w; rw [if_pos rfl]; exact h
theorem A3K {i j : Nat} (hn : Nat.beq j i = false) (h : Q (.exit j) a w) : Exit.inBlock i Q (.exit j) a w := by
  show if j = i then Q .normal a w else Q (.exit j) a w; rw [if_neg (fun e => by subst e; simp at hn)]; exact h
theorem Q4 {c : Code} (I : Nat → Act → World → Prop) (k : Nat) (h0 : I k a w) (hz : ∀ a w, ¬ I 0 a w)
    (round : ∀ k a w (K : Act → World → Prop), (∀ a w, I k a w → K a w) → I (k + 1) a w → c.wp P (Exit.then K Q) a w) : (Code.loop c).wp P Q a w := by
  intro b kk cs; have key : ∀ n a w, I n a w → ∃ e a' w', Q e a' w' ∧ Arrives P (lone (b.at a (.code c :: .inLoop c :: kk)) cs w) b kk cs e a' w' := by
    intro n
    induction n with
    | zero => intro a w hI; exact absurd hI (hz a w)
    | succ n ih =>
      intro a w hI; obtain ⟨e, a₁, w₁, hq, harr⟩ := round n a w (I n) (fun _ _ h => h) hI b (.inLoop c :: kk) cs
      cases e with
      | normal =>
        obtain ⟨e₂, a₂, w₂, hq₂, harr₂⟩ := ih a₁ w₁ hq; exact ⟨e₂, a₂, w₂, hq₂, .of_steps (Steps.trans harr (.one step_inLoop)) harr₂⟩
      | exit id => exact ⟨_, a₁, w₁, hq, .pass (x := .inLoop c) rfl (fun _ _ => .inl (by simp)) harr⟩
      | goto l => exact ⟨_, a₁, w₁, hq, .pass (x := .inLoop c) rfl (fun _ _ => .inl (by simp)) harr⟩
      | ret => exact ⟨_, a₁, w₁, hq, .pass (x := .inLoop c) rfl (fun _ _ => .inl (by simp)) harr⟩
      | panic ch => exact ⟨_, a₁, w₁, hq, .pass (x := .inLoop c) rfl (fun _ _ => .inl (by simp)) harr⟩
      | outgrown => exact ⟨_, a₁, w₁, hq, .pass (x := .inLoop c) rfl (fun _ _ => .inl (by simp)) harr⟩
  obtain ⟨e, a', w', hq, harr⟩ := key k a w h0; exact ⟨e, a', w', hq, .of_steps (.one step_loop) harr⟩
end
section
variable {P : Program} {ops : Array Oper} {Q : Exit → Act → World → Prop} {n : Nat} {a : Act} {m : List (Nat × Value)} {w : World} {rest : List Oper} {d : Tmp} {ty : TypeId} {ps : String} {af : Array Edge}
abbrev O6 (P : Program) (ops : Array Oper) (Q : Exit → Act → World → Prop) (rest : List Oper) (n : Nat) (m : List (Nat × Value)) (d : Tmp) (w' : World) (v : Value) : Prop :=
  ∀ a', Fr n a' ((d, v) :: m) → wpList P ops Q rest a' w'
theorem V0 {op : Op} {v : Value} {w' : World} (h : Fr n a m) (hd : Nat.blt d n = true) (hr : (execOp a.eval { dst := some d, op := op, type := ty, pos := ps, after := af, guard := none }).run P w = .ok (.value v) w')
    (k : O6 P ops Q rest n m d w' v) : wpList P ops Q ({ dst := some d, op := op, type := ty, pos := ps, after := af, guard := none } :: rest) a w :=
  wpList_plain rfl fun K hK => by
    unfold Oper.wp; rw [hr]; exact hK _ _ (k _ (h.put (by simpa using hd)))
theorem B1G {op : Op} {w' : World} (hr : (execOp a.eval { dst := none, op := op, type := ty, pos := ps, after := af, guard := none }).run P w = .ok .skip w')
    (k : wpList P ops Q rest a w') : wpList P ops Q ({ dst := none, op := op, type := ty, pos := ps, after := af, guard := none } :: rest) a w :=
  wpList_plain rfl fun K hK => by
    unfold Oper.wp; rw [hr]; exact hK _ _ k
theorem B2F {dst : Option Tmp} {op : Op} {j : Nat} {b b' : Bool} {t : Tmp} (h : Fr n a m) (hj : (ops[j]?).bind (·.dst) = some t) (hv : U0 t m = some (.bool b')) (hb : b' = b)
    (k : wpList P ops Q ({ dst := dst, op := op, type := ty, pos := ps, after := af, guard := none } :: rest) a w) : wpList P ops Q ({ dst := dst, op := op, type := ty, pos := ps, after := af, guard := some (j, b) } :: rest) a w := by
  subst hb; have hw : Region.wanted { dst := dst, op := op, type := ty, pos := ps, after := af, guard := some (j, b') } (yielded ops a.tmps) = true := by
    simp [Region.wanted, yielded, hj, h.at_ _ _ hv]
  have hw' : Region.wanted { dst := dst, op := op, type := ty, pos := ps, after := af, guard := none } (yielded ops a.tmps) = true := rfl; unfold wpList at k ⊢; rw [if_pos hw'] at k; rw [if_pos hw]; exact k
theorem A7a {op : Op} {j : Nat} {b b' : Bool} {t : Tmp} (h : Fr n a m) (hd : Nat.blt d n = true) (hj : (ops[j]?).bind (·.dst) = some t) (hv : U0 t m = some (.bool b')) (hb : b' = !b)
    (k : O6 P ops Q rest n m d w undef) : wpList P ops Q ({ dst := some d, op := op, type := ty, pos := ps, after := af, guard := some (j, b) } :: rest) a w := by
  subst hb; have hw : Region.wanted { dst := some d, op := op, type := ty, pos := ps, after := af, guard := some (j, b) } (yielded ops a.tmps) = false := by
    cases b <;> simp [Region.wanted, yielded, hj, h.at_ _ _ hv]
  unfold wpList; rw [if_neg (by rw [hw]; simp)]; exact k _ (h.put (by simpa using hd))
theorem A3c {x : Operand} {v : Value} (h : Fr n a m) (hd : Nat.blt d n = true) (hx : ev m x = some v) (k : O6 P ops Q rest n m d w v) :
    wpList P ops Q ({ dst := some d, op := .move x, type := ty, pos := ps, after := af, guard := none } :: rest) a w := V0 h hd (by simp [execOp, h.eval hx]) k
theorem A2R {x : Operand} {v : Value} (h : Fr n a m) (hd : Nat.blt d n = true) (hx : ev m x = some v) (k : O6 P ops Q rest n m d w v) :
    wpList P ops Q ({ dst := some d, op := .assign x, type := ty, pos := ps, after := af, guard := none } :: rest) a w := V0 h hd (by simp [execOp, h.eval hx]) k
theorem B0d {c x y : Operand} {b : Bool} {v : Value} (h : Fr n a m) (hd : Nat.blt d n = true) (hc : ev m c = some (.bool b)) (hb : b = true) (hx : ev m x = some v) (k : O6 P ops Q rest n m d w v) :
    wpList P ops Q ({ dst := some d, op := .pick c x y, type := ty, pos := ps, after := af, guard := none } :: rest) a w := V0 h hd (by simp [execOp, h.eval hx, h.eval hc, hb, asBool]) k
theorem B0e {c x y : Operand} {b : Bool} {v : Value} (h : Fr n a m) (hd : Nat.blt d n = true) (hc : ev m c = some (.bool b)) (hb : b = false) (hy : ev m y = some v) (k : O6 P ops Q rest n m d w v) :
    wpList P ops Q ({ dst := some d, op := .pick c x y, type := ty, pos := ps, after := af, guard := none } :: rest) a w := V0 h hd (by simp [execOp, h.eval hy, h.eval hc, hb, asBool]) k
theorem I7 {x : Operand} {ad : Addr} (h : Fr n a m) (hd : Nat.blt d n = true) (hx : ev m x = some (.pointer (some ad))) (k : O6 P ops Q rest n m d w (.pointer (some ad))) :
    wpList P ops Q ({ dst := some d, op := .nilCheck x, type := ty, pos := ps, after := af, guard := none } :: rest) a w := V0 h hd (by simp [execOp, h.eval hx]) k
theorem F8 {x : Operand} {i : Nat} {vs : List Value} {v : Value} (h : Fr n a m) (hd : Nat.blt d n = true) (hx : ev m x = some (.tuple vs.toArray)) (hv : vs[i]? = some v) (k : O6 P ops Q rest n m d w v) :
    wpList P ops Q ({ dst := some d, op := .extract x i, type := ty, pos := ps, after := af, guard := none } :: rest) a w := V0 h hd (by simp [execOp, h.eval hx, Instr.extract, hv]) k
theorem B1I {f : Fn} {cap : List Operand} {vs : List Value} (h : Fr n a m) (hd : Nat.blt d n = true) (hx : evs m cap = some vs) (k : O6 P ops Q rest n m d w (.func f #[] vs.toArray)) :
    wpList P ops Q ({ dst := some d, op := .makeFunc f #[] cap.toArray, type := ty, pos := ps, after := af, guard := none } :: rest) a w := V0 h hd (by simp [execOp, Instr.makeFunc, h.evals hx]) k
theorem G5 {op : BinOp} {k : IntKind} {x y : Operand} {i j r : Int} {t1 t2 : TypeId} (h : Fr n a m) (hd : Nat.blt d n = true) (hx : ev m x = some (.int k i)) (hy : ev m y = some (.int k j))
    (ho : (op = .add ∧ r = k.wrap (i + j)) ∨ (op = .sub ∧ r = k.wrap (i - j)) ∨ (op = .mul ∧ r = k.wrap (i * j))) (kk : O6 P ops Q rest n m d w (.int k r)) :
    wpList P ops Q ({ dst := some d, op := .binOp op t1 x y t2, type := ty, pos := ps, after := af, guard := none } :: rest) a w := V0 h hd (by
      rcases ho with ⟨rfl, rfl⟩ | ⟨rfl, rfl⟩ | ⟨rfl, rfl⟩ <;> simp [execOp, h.eval hx, h.eval hy, eqGuard, binOp, Op.intArith]) kk
theorem W0 {op : BinOp} {k : IntKind} {x y : Operand} {i j r : Int} {t1 t2 : TypeId} (h : Fr n a m) (hd : Nat.blt d n = true) (hx : ev m x = some (.int k i)) (hy : ev m y = some (.int k j))
    (ho : (op = .and ∧ r = F0 k i j) ∨ (op = .or ∧ r = bor k i j) ∨ (op = .xor ∧ r = A6o k i j) ∨ (op = .andNot ∧ r = A7f k i j)) (kk : O6 P ops Q rest n m d w (.int k r)) :
    wpList P ops Q ({ dst := some d, op := .binOp op t1 x y t2, type := ty, pos := ps, after := af, guard := none } :: rest) a w := V0 h hd (by
      rcases ho with ⟨rfl, rfl⟩ | ⟨rfl, rfl⟩ | ⟨rfl, rfl⟩ | ⟨rfl, rfl⟩ <;> simp [execOp, h.eval hx, h.eval hy, eqGuard, binOp, Op.intBits, F0, bor, A6o, A7f]) kk
theorem Y9 {op : BinOp} {k k2 : IntKind} {x y : Operand} {i j r : Int} {t1 t2 : TypeId} (h : Fr n a m) (hd : Nat.blt d n = true) (hx : ev m x = some (.int k i)) (hy : ev m y = some (.int k2 j)) (hj : 0 ≤ j)
    (ho : (op = .shl ∧ r = shl k i j) ∨ (op = .shr ∧ r = shr k i j)) (kk : O6 P ops Q rest n m d w (.int k r)) :
    wpList P ops Q ({ dst := some d, op := .binOp op t1 x y t2, type := ty, pos := ps, after := af, guard := none } :: rest) a w := V0 h hd (by
      rcases ho with ⟨rfl, rfl⟩ | ⟨rfl, rfl⟩ <;> simp [execOp, h.eval hx, h.eval hy, eqGuard, binOp, Op.shift, Int.not_lt.2 hj, shl, shr]) kk
theorem B0C {op : BinOp} {k : IntKind} {x y : Operand} {i j r : Int} {t1 t2 : TypeId} (h : Fr n a m) (hd : Nat.blt d n = true) (hx : ev m x = some (.int k i)) (hy : ev m y = some (.int k j)) (hj : j ≠ 0)
    (ho : (op = .quo ∧ r = k.wrap (i.tdiv j)) ∨ (op = .rem ∧ r = i.tmod j)) (kk : O6 P ops Q rest n m d w (.int k r)) :
    wpList P ops Q ({ dst := some d, op := .binOp op t1 x y t2, type := ty, pos := ps, after := af, guard := none } :: rest) a w := V0 h hd (by
      rcases ho with ⟨rfl, rfl⟩ | ⟨rfl, rfl⟩ <;> simp [execOp, h.eval hx, h.eval hy, eqGuard, binOp, Op.intDiv, hj]) kk
theorem C1 {op : BinOp} {k : IntKind} {x y : Operand} {i j : Int} {b : Bool} {t1 t2 : TypeId} (h : Fr n a m) (hd : Nat.blt d n = true) (hx : ev m x = some (.int k i)) (hy : ev m y = some (.int k j))
    (ho : (op = .eql ∧ b = (i == j)) ∨ (op = .neq ∧ b = (i != j)) ∨ (op = .lss ∧ b = decide (i < j)) ∨ (op = .leq ∧ b = decide (i ≤ j)) ∨ (op = .gtr ∧ b = decide (i > j)) ∨ (op = .geq ∧ b = decide (i ≥ j)))
    (kk : O6 P ops Q rest n m d w (.bool b)) :
    wpList P ops Q ({ dst := some d, op := .binOp op t1 x y t2, type := ty, pos := ps, after := af, guard := none } :: rest) a w := V0 h hd (by
      rcases ho with ⟨rfl, rfl⟩ | ⟨rfl, rfl⟩ | ⟨rfl, rfl⟩ | ⟨rfl, rfl⟩ | ⟨rfl, rfl⟩ | ⟨rfl, rfl⟩ <;> simp [execOp, h.eval hx, h.eval hy, eqGuard, binOp, Op.intCmp]) kk
theorem Z5 {x : Operand} {b : Bool} {t : TypeId} (h : Fr n a m) (hd : Nat.blt d n = true) (hx : ev m x = some (.bool b)) (k : O6 P ops Q rest n m d w (.bool (!b))) :
    wpList P ops Q ({ dst := some d, op := .unOp .not t x, type := ty, pos := ps, after := af, guard := none } :: rest) a w := V0 h hd (by simp [execOp, h.eval hx, Op.unary]) k
theorem A4d {t : TypeId} (hU : P.underlying t = some .bool) (i j : Bool) : (Op.equal t (.bool i) (.bool j)).run P w = .ok (i == j) w := by
  have hu : (underlying t).run P w = .ok .bool w := by simp [underlying, program, Sem.run, Sem.run_bind, hU]
  show (Op.equalIn (9999 + 1) t (.bool i) (.bool j)).run P w = _; rw [Op.equalIn]; simp only [Sem.run_bind, hu, Result.andThen_ok, Sem.run_pure]
theorem A8C {op : BinOp} {x y : Operand} {i j b : Bool} {t1 t2 : TypeId} (h : Fr n a m) (hd : Nat.blt d n = true) (hU : P.underlying t1 = some .bool) (hx : ev m x = some (.bool i)) (hy : ev m y = some (.bool j))
    (ho : (op = .eql ∧ b = (i == j)) ∨ (op = .neq ∧ b = !(i == j))) (kk : O6 P ops Q rest n m d w (.bool b)) :
    wpList P ops Q ({ dst := some d, op := .binOp op t1 x y t2, type := ty, pos := ps, after := af, guard := none } :: rest) a w := V0 h hd (by
      have he := A4d (w := w) hU i j; have h1 : binOp .eql t1 (.bool i) (.bool j) = (do pure (.bool (← Op.equal t1 (.bool i) (.bool j)))) := rfl; have h2 : binOp .neq t1 (.bool i) (.bool j) = (do pure (.bool (!(← Op.equal t1 (.bool i) (.bool j))))) := rfl
      rcases ho with ⟨rfl, rfl⟩ | ⟨rfl, rfl⟩ <;> simp [execOp, h.eval hx, h.eval hy, eqGuard, h1, h2, he]) kk
theorem A0g {src dst : TypeId} {k k' : IntKind} {x : Operand} {i : Int} (r : Int) (h : Fr n a m) (hd : Nat.blt d n = true) (hS : P.underlying src = some (.int k)) (hU : P.underlying dst = some (.int k')) (hx : ev m x = some (.int k i)) (ho : r = k'.wrap i)
    (kk : O6 P ops Q rest n m d w (.int k' r)) :
    wpList P ops Q ({ dst := some d, op := .convert src dst x, type := ty, pos := ps, after := af, guard := none } :: rest) a w := V0 h hd (by
      have hu : (underlying src).run P w = .ok (.int k) w := by simp [underlying, program, Sem.run, Sem.run_bind, hS]
      have hu' : (underlying dst).run P w = .ok (.int k') w := by simp [underlying, program, Sem.run, Sem.run_bind, hU]
      subst ho; simp [execOp, h.eval hx, convert, hu, hu', Conv.intToInt]) kk
end
end Go.Gp
/- Steps that read or write memory, and calls. -/
namespace Go.Gp
open Go
section
variable {P : Program} {ops : Array Oper} {Q : Exit → Act → World → Prop} {n : Nat} {a : Act} {m : List (Nat × Value)} {w : World} {rest : List Oper} {d : Tmp} {ty : TypeId} {ps : String} {af : Array Edge}
theorem S6 {t : TypeId} {D : TypeDesc} (h : P.underlying t = some D) : (underlying t).run P w = .ok D w := by simp [underlying, program, Sem.run, Sem.run_bind, h]
def TI (P : Program) (t : TypeId) (zs : List Value) (z : Value) (by_ : Nat) : Prop := ∃ i, P.info? t = some i ∧ i.zero = some z ∧ z.cells = zs.toArray ∧ i.size = zs.length ∧ i.bytes = by_
theorem TI.mk {t : TypeId} {zs : List Value} {z : Value} {by_ : Nat} (h : (P.info? t).map (fun i => (i.zero, i.size, i.bytes)) = some (some z, zs.length, by_)) (hz : z.cells = zs.toArray) : TI P t zs z by_ := by
  cases hi : P.info? t with
  | none => rw [hi] at h; cases h
  | some i =>
    rw [hi] at h; simp only [Option.map_some, Option.some.injEq, Prod.mk.injEq] at h; exact ⟨i, hi, h.1, hz, h.2.1, h.2.2⟩
theorem TI.size {t : TypeId} {zs : List Value} {z : Value} {b : Nat} (h : TI P t zs z b) : (sizeOf t).run P w = .ok zs.length w := by
  obtain ⟨i, h1, h2, h3, h4, h5⟩ := h; simp [sizeOf, typeInfo, program, Sem.run, Sem.run_bind, h1, h4]
theorem TI.zero {t : TypeId} {zs : List Value} {z : Value} {b : Nat} (h : TI P t zs z b) : (zeroValue t).run P w = .ok z w := by
  obtain ⟨i, h1, h2, h3, h4, h5⟩ := h; simp [zeroValue, typeInfo, program, Sem.run, Sem.run_bind, h1, h2]
theorem TI.bytes {t : TypeId} {zs : List Value} {z : Value} {b : Nat} (h : TI P t zs z b) : ∃ i, (typeInfo t).run P w = .ok i w ∧ i.bytes = b := by
  obtain ⟨i, h1, h2, h3, h4, h5⟩ := h; exact ⟨i, by simp [typeInfo, program, Sem.run, Sem.run_bind, h1], h5⟩
theorem A5g {g : Nat} {cs : List Value} {T : TypeId} {fz : Nat × Nat} (hb : w.heap[g]? = some (.cells cs.toArray T fz)) (o : Nat) : w.cell? ⟨g, o, none⟩ = cs[o]? := by
  simp [World.cell?, hb]
theorem load_one {t : TypeId} {ad : Addr} {v : Value} {D : TypeDesc} (hU : P.underlying t = some D) (hA : (match D with | .struct _ | .array _ _ => true | _ => false) = false) (hc : w.cell? ad = some v) : (loadVar t ad).run P w = .ok v w := by
  have hi : (isAgg t).run P w = .ok false w := by
    simp only [isAgg, Sem.run_bind, S6 hU, Result.andThen_ok]; cases D <;> first | rfl | (simp at hA)
  unfold loadVar; rw [Sem.run_bind, hi]; simp [load, Sem.run, hc]
theorem load_agg {t : TypeId} {ad : Addr} {D : TypeDesc} {cs : List Value} {zs : List Value} {z : Value} {b : Nat} (hU : P.underlying t = some D) (hA : (match D with | .struct _ | .array _ _ => true | _ => false) = true) (hT : TI P t zs z b) (hl : cs.length = zs.length)
    (hc : ∀ i v, cs[i]? = some v → w.cell? (ad.add i) = some v) : (loadVar t ad).run P w = .ok (.agg cs.toArray) w := by
  have hi : (isAgg t).run P w = .ok true w := by
    simp only [isAgg, Sem.run_bind, S6 hU, Result.andThen_ok]; cases D <;> first | rfl | (simp at hA)
  unfold loadVar; rw [Sem.run_bind, hi]; simp only [Result.andThen_ok, if_true, Sem.run_bind, hT.size]; have := run_loadCells_list (P := P) w ad cs hc; rw [hl] at this; rw [this]; simp
theorem A4K {t : TypeId} {g o : Nat} {v : Value} {vs zs : List Value} {z : Value} {b : Nat} {cur : Array Value} {T : TypeId} (hT : TI P t zs z b) (hv : v.cells = vs.toArray) (hl : vs.length = zs.length)
    (hb : w.heap[g]? = some (.cells cur T (0, 0))) (ho : o + vs.length ≤ cur.size) (h1 : ∀ u ∈ vs, u.oneCell' = true) :
    (storeVar t ⟨g, o, none⟩ v).run P w = .ok () (w.setRow g (cur.toList.take o ++ vs ++ cur.toList.drop (o + vs.length)).toArray) := by
  have hs := run_storeCells_atF P g o T (0, 0) vs 0 cur w hb (by simp) (by simpa using ho) h1; unfold storeVar; rw [Sem.run_bind, hT.size]; simp only [Result.andThen_ok, hv, List.size_toArray, hl, ne_eq, not_true_eq_false, if_false, Nat.add_zero] at hs ⊢; exact hs
theorem B1H {t : TypeId} {x : Operand} {ad : Addr} {v : Value} (h : Fr n a m) (hd : Nat.blt d n = true) (hx : ev m x = some (.pointer (some ad))) (hl : (loadVar t ad).run P w = .ok v w) (k : O6 P ops Q rest n m d w v) :
    wpList P ops Q ({ dst := some d, op := .load t x, type := ty, pos := ps, after := af, guard := none } :: rest) a w := V0 h hd (by simp [execOp, h.eval hx, Instr.loadAt, Instr.sureAddr, hl]) k
theorem A4c {t : TypeId} {x y : Operand} {ad : Addr} {v : Value} {w' : World} (h : Fr n a m) (hx : ev m x = some (.pointer (some ad))) (hy : ev m y = some v) (hs : (storeVar t ad v).run P w = .ok () w')
    (k : wpList P ops Q rest a w') : wpList P ops Q ({ dst := none, op := .store t x y, type := ty, pos := ps, after := af, guard := none } :: rest) a w :=
  B1G (by simp [execOp, h.eval hx, h.eval hy, Instr.storeAt, Instr.sureAddr, hs]) k
theorem B0U {t : TypeId} {zs : List Value} {z : Value} {b : Nat} (h : Fr n a m) (hd : Nat.blt d n = true) (hT : TI P t zs z b)
    (k : O6 P ops Q rest n m d (w.alloc (.cells zs.toArray t)) (.pointer (some ⟨w.heap.size, 0, none⟩))) :
    wpList P ops Q ({ dst := some d, op := .alloc t, type := ty, pos := ps, after := af, guard := none } :: rest) a w := V0 h hd (by
      have hz := hT.zero (w := w); obtain ⟨i, h1, h2, h3, h4, h5⟩ := hT; simp [execOp, Instr.alloc, hz, newVar, newRow, newObj, Sem.run, h3]) k
theorem B2p {t : TypeId} {x : Operand} {v : Value} {vs : List Value} (h : Fr n a m) (hd : Nat.blt d n = true) (hx : ev m x = some v) (hv : v.cells = vs.toArray)
    (k : O6 P ops Q rest n m d (w.alloc (.cells vs.toArray t)) (.pointer (some ⟨w.heap.size, 0, none⟩))) :
    wpList P ops Q ({ dst := some d, op := .box t x, type := ty, pos := ps, after := af, guard := none } :: rest) a w := V0 h hd (by
      simp [execOp, Instr.box, h.eval hx, newVar, newRow, newObj, Sem.run, hv]) k
theorem A7U {t : TypeId} {x : Operand} {ad : Addr} {i : Nat} {fs : Array Field} {f : Field} {zs : List Value} {z : Value} {b : Nat} (h : Fr n a m) (hd : Nat.blt d n = true) (hU : P.underlying t = some (.struct fs)) (hf : fs[i]? = some f)
    (hT : TI P f.type zs z b) (hz : Nat.beq zs.length 0 = false) (hx : ev m x = some (.pointer (some ad))) (k : O6 P ops Q rest n m d w (.pointer (some (ad.add f.offset)))) :
    wpList P ops Q ({ dst := some d, op := .fieldAddr t x i, type := ty, pos := ps, after := af, guard := none } :: rest) a w := V0 h hd (by
      have hn : zs.length ≠ 0 := fun e => by rw [e] at hz; cases hz
      have hp : (fieldPlace ad f).run P w = .ok (ad.add f.offset) w := by
        unfold fieldPlace; rw [Sem.run_bind, hT.size]; simp only [Result.andThen_ok, if_neg hn]
        rfl
      simp [execOp, h.eval hx, Instr.fieldAt, S6 hU, hf, Instr.sureAddr, hp]) k
end
end Go.Gp
/- Steps over slices and strings, and calls. -/
namespace Go.Gp
open Go
section
variable {P : Program} {ops : Array Oper} {Q : Exit → Act → World → Prop} {n : Nat} {a : Act} {m : List (Nat × Value)} {w w0 : World} {rest : List Oper} {d : Tmp} {ty : TypeId} {ps : String} {af : Array Edge}
variable {α : Type} {kd : Kd α} {M I Z : Mem} {xs : List α} {l : List Mem}
theorem Rd.form {v : Value} (h : Rd kd M v xs) : ∃ A c, v = .slice A xs.length c ∧ xs.length ≤ c := by
  obtain ⟨A, c, h1, h2, _⟩ := h; exact ⟨A, c, h1, h2⟩
theorem K6 {x : Operand} {v : Value} {t e : TypeId} (h : Fr n a m) (hd : Nat.blt d n = true) (hU : P.underlying t = some (.slice e)) (hx : ev m x = some v) (hr : Rd kd M v xs) (k : O6 P ops Q rest n m d w (.int .i64 (xs.length : Int))) :
    wpList P ops Q ({ dst := some d, op := .call { callee := .builtin .len, args := #[x], argTypes := #[t] }, type := ty, pos := ps, after := af, guard := none } :: rest) a w := V0 h hd (by
      obtain ⟨A, c, rfl, _⟩ := hr.form; simp [execOp, resolve, invoke, builtin, Builtin.len_, h.eval hx, S6 hU, goInt]) k
theorem A4W {x y : Operand} {i j : Int} {t1 t2 : TypeId} (h : Fr n a m) (hd : Nat.blt d n = true) (hx : ev m x = some (.int .i64 i)) (hy : ev m y = some (.int .i64 j)) (k : O6 P ops Q rest n m d w (.int .i64 (mn i j))) :
    wpList P ops Q ({ dst := some d, op := .call { callee := .builtin .min, args := #[x, y], argTypes := #[t1, t2] }, type := ty, pos := ps, after := af, guard := none } :: rest) a w := V0 h hd (by
      simp [execOp, resolve, invoke, builtin, Builtin.min_, Builtin.min2, h.eval hx, h.eval hy, mn]) k
theorem A5A {x y : Operand} {i j : Int} {t1 t2 : TypeId} (h : Fr n a m) (hd : Nat.blt d n = true) (hx : ev m x = some (.int .i64 i)) (hy : ev m y = some (.int .i64 j)) (k : O6 P ops Q rest n m d w (.int .i64 (mx i j))) :
    wpList P ops Q ({ dst := some d, op := .call { callee := .builtin .max, args := #[x, y], argTypes := #[t1, t2] }, type := ty, pos := ps, after := af, guard := none } :: rest) a w := V0 h hd (by
      simp [execOp, resolve, invoke, builtin, Builtin.max_, Builtin.max2, h.eval hx, h.eval hy, mx]) k
theorem A7T {t e : TypeId} {x y : Operand} {v : Value} {i : Int} {zs : List Value} {z : Value} {b : Nat} {u : α} (h : Fr n a m) (hd : Nat.blt d n = true) (hU : P.underlying t = some (.slice e)) (hT : TI P e zs z b) (hsz : zs.length = kd.sz)
    (hx : ev m x = some v) (hy : ev m y = some (.int .i64 i)) (hr : Rd kd M v xs) (hi : ix xs i = some u)
    (k : ∀ ad, At kd M ad u → O6 P ops Q rest n m d w (.pointer (some ad))) :
    wpList P ops Q ({ dst := some d, op := .indexAddr t x y, type := ty, pos := ps, after := af, guard := none } :: rest) a w := by
  obtain ⟨A, c, rfl, h2, h3, h4⟩ := hr; obtain ⟨h5, h6⟩ := A2W hi; have hl := A5K hi; have hne : xs ≠ [] := fun e => by subst e; simp at hl
  obtain ⟨ad, rfl, h7⟩ := h4 hne; refine V0 h hd (v := .pointer (some (ad.add (i.toNat * kd.sz)))) ?_ (k _ (h7 _ _ h6)); have hlt : i < (xs.length : Int) := by omega
  simp [execOp, Instr.indexAt, h.eval hx, h.eval hy, asIntOf, S6 hU, h5, hlt, hT.size, hsz]
theorem At.load_one {u : α} {ad : Addr} {v : Value} {t : TypeId} {D : TypeDesc} (hM : M.le (hp w)) (h : At kd M ad u) (hk : ∀ cs, kd.K M u cs → cs = [v]) (hU : P.underlying t = some D) (hA : (match D with | .struct _ | .array _ _ => true | _ => false) = false) :
    (loadVar t ad).run P w = .ok v w := by
  obtain ⟨cs, h1, h2⟩ := h; obtain rfl := hk cs h1; refine Gp.load_one hU hA ?_; have := h2 0 v rfl; exact Mem.cell_le hM this
theorem At.sub {β : Type} {kb : Kd β} {u : α} {ub : β} {ad : Addr} {o : Nat} (h : At kd M ad u) (hk : ∀ cs, kd.K M u cs → kb.K M ub ((cs.drop o).take kb.sz)) : At kb M (ad.add o) ub := by
  obtain ⟨cs, h1, h2⟩ := h; refine ⟨_, hk cs h1, fun i v hv => ?_⟩; rw [Addr.add_add]; refine h2 _ _ ?_; rw [List.getElem?_take] at hv; split at hv
  · rw [List.getElem?_drop] at hv; exact hv
  · cases hv
theorem A8y (A vs : List Value) (p o sz : Nat) (h : o + vs.length ≤ sz) :
    A.take p ++ (((A.drop p).take sz).take o ++ vs ++ ((A.drop p).take sz).drop (o + vs.length)) ++ A.drop (p + sz) = A.take (p + o) ++ vs ++ A.drop (p + o + vs.length) := by
  have h1 : A.take p ++ ((A.drop p).take sz).take o = A.take (p + o) := by
    rw [List.take_take, Nat.min_eq_left (by omega), ← List.take_add]
  have h2 : ((A.drop p).take sz).drop (o + vs.length) ++ A.drop (p + sz) = A.drop (p + o + vs.length) := by
    rw [List.drop_take, List.drop_drop]; have : A.drop (p + sz) = (A.drop (p + (o + vs.length))).drop (sz - (o + vs.length)) := by rw [List.drop_drop]; congr 1; omega
    rw [this, List.take_append_drop, Nat.add_assoc]
  simp only [List.append_assoc] at h1 h2 ⊢; rw [h2, ← List.append_assoc, h1]
theorem A7R (L vs : List Value) (q R : Nat) (h : q + vs.length ≤ R) (hR : R ≤ L.length) :
    (L.take q ++ vs ++ L.drop (q + vs.length)).take R = (L.take R).take q ++ vs ++ (L.take R).drop (q + vs.length) := by
  have hq : (L.take q ++ vs).length = q + vs.length := by rw [List.length_append, List.length_take]; omega
  rw [List.take_append, hq, List.take_of_length_le (by rw [hq]; omega), List.take_take, Nat.min_eq_left (by omega), List.drop_take]
theorem A2G {t e : TypeId} {x y : Operand} {v : Value} {i : Int} {zs : List Value} {z : Value} {b : Nat} {u : α} (h : Fr n a m) (hd : Nat.blt d n = true) (hU : P.underlying t = some (.slice e)) (hT : TI P e zs z b) (hsz : zs.length = kd.sz)
    (hx : ev m x = some v) (hy : ev m y = some (.int .i64 i)) (hr : Own kd e M I v xs) (hi : ix xs i = some u)
    (k : ∀ g cur, M = Mem.one g (.cells cur e (0, 0)) → O6 P ops Q rest n m d w (.pointer (some ⟨g, i.toNat * kd.sz, none⟩))) :
    wpList P ops Q ({ dst := some d, op := .indexAddr t x y, type := ty, pos := ps, after := af, guard := none } :: rest) a w := by
  obtain ⟨h5, h6⟩ := A2W hi; have hl := A5K hi
  rcases hr with ⟨_, rfl, _⟩ | ⟨g, cap, cur, rfl, rfl, h3, h4, h7, h8⟩
  · simp at hl
  refine V0 h hd (v := .pointer (some ⟨g, i.toNat * kd.sz, none⟩)) ?_ (k _ _ rfl); have hlt : i < (xs.length : Int) := by omega
  simp [execOp, Instr.indexAt, h.eval hx, h.eval hy, asIntOf, S6 hU, h5, hlt, hT.size, hsz, Addr.add_plain]
theorem Own.stored {t e : TypeId} {v nv : Value} {i : Int} {o p : Nat} {g : Nat} {cur : Array Value} {vs zs : List Value} {z : Value} {b : Nat} {u u' : α} (hS : Sep w0 w l Z) (hn : nth l p = M) (hr : Own kd e M I v xs) (hM : M = Mem.one g (.cells cur e (0, 0)))
    (hi : ix xs i = some u) (hT : TI P t zs z b) (hv : nv.cells = vs.toArray) (hl : vs.length = zs.length) (ho : Nat.ble (o + vs.length) kd.sz = true) (h1 : ∀ y ∈ vs, y.oneCell' = true)
    (hk : ∀ cs, kd.K I u cs → kd.K I u' (cs.take o ++ vs ++ cs.drop (o + vs.length))) :
    ∃ w' M', (storeVar t ⟨g, i.toNat * kd.sz + o, none⟩ nv).run P w = .ok () w' ∧ Sep w0 w' (l.set p M') Z ∧ Own kd e M' I v (xs.set i.toNat u') := by
  have ho := Nat.le_of_ble_eq_true ho; obtain ⟨h5, h6⟩ := A2W hi; have hlt := A5K hi
  rcases hr with ⟨_, rfl, _⟩ | ⟨g', cap, cur', rfl, h2, h3, h4, h7, h8⟩
  · simp at hlt
  have hg := hM.symm.trans h2; have hgg : g = g' := by
    have e1 := congrFun hg g; rw [Mem.one_self] at e1; unfold Mem.one at e1; split at e1
    · assumption
    · cases e1
  subst hgg; have hcur : cur = cur' := by
    have e1 := congrFun hg g; rw [Mem.one_self, Mem.one_self] at e1
    injection e1 with e1
    injection e1
  subst hcur; have hb : w.heap[g]? = some (.cells cur e (0, 0)) := hS.heap_at (i := p) (by rw [hn, hM]); have hrow : i.toNat * kd.sz + kd.sz ≤ cur.size := by
    refine Nat.le_trans ?_ h7; rw [← Nat.succ_mul]; exact Nat.mul_le_mul_right _ (by omega)
  have hrun := A4K (P := P) (w := w) (o := i.toNat * kd.sz + o) hT hv hl hb (by omega) h1; refine ⟨_, Mem.one g (.cells _ e (0, 0)), hrun, hS.change p _ rfl rfl rfl (by simp) (fun k hk' hnone => ?_) (Mem.one_le (setRow_heap w g cur _ e (0, 0) hb)) (fun k hk' => ?_) .z, .inr ⟨g, cap, _, by rw [List.length_set], rfl, by rw [List.length_set]; exact h3, h4, ?_, ?_⟩⟩
  · refine setRow_other w g k _ (fun e => ?_); subst e; rw [hn, hM, Mem.one_self] at hnone; cases hnone
  · rw [Mem.one_dom hk', hn, hM, Mem.one_self]; exact .inl (by simp)
  · simp only [List.size_toArray, List.length_append, List.length_take, List.length_drop, Array.length_toList]; omega
  · have hset := h8.set i.toNat u' (hk _ (h8.2 _ _ h6)) (by omega); have hc8 := h8.1; rw [List.length_take, Array.length_toList] at hc8; have hx1 : i.toNat * kd.sz + kd.sz ≤ xs.length * kd.sz := by rw [← Nat.succ_mul]; exact Nat.mul_le_mul_right _ hlt
    have hx2 : xs.length * kd.sz ≤ cur.toList.length := by rw [Array.length_toList]; omega
    have e2 := A7R cur.toList vs (i.toNat * kd.sz + o) (xs.length * kd.sz) (by omega) hx2; rw [A8y _ _ _ _ _ ho] at hset; rw [List.length_set]; show D8 kd I (xs.set i.toNat u') ((cur.toList.take (i.toNat * kd.sz + o) ++ vs ++ cur.toList.drop (i.toNat * kd.sz + o + vs.length)).take (xs.length * kd.sz)); rw [e2]; exact hset
end
end Go.Gp
