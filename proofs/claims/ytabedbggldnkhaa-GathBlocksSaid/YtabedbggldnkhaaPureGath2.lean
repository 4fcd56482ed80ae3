/- What the statements say, of the plain functions. -/
import Derived.Test.YtabedbggldnkhaaDefs
import Derived.Test.YtabedbggldnkhaaLe
import Derived.Test.YtabedbggldnkhaaThInts
import Derived.Test.YtabedbggldnkhaaThView
import Derived.Test.YtabedbggldnkhaaThView2
import Derived.Test.YtabedbggldnkhaaThMsg
import Derived.Test.YtabedbggldnkhaaThGath
/- Layer 18: no commit without the state of the greatest view. -/
namespace Go.Gp
open Go
theorem awake18 : hocketlaw18_awake.f 100 = some () := by decide +kernel
def own3 : api_Msg := ⟨2, 0, 0, 800, 8, 3, true, 0, 0, 0, 0, ([] : List UInt8), 0, 0, ([] : List Int), ([] : List Int), 0, (⟨0, 0, (⟨0, 0, ([] : List UInt8), ([] : List UInt8), ([] : List UInt8)⟩ : api_Cmd)⟩ : api_Entry)⟩
def blk (f : Nat) (n : Int) : api_Msg := ⟨2, (f : Int), 0, 800, 16, n, false, 0, 0, 0, 0, ([] : List UInt8), 0, 0, ([] : List Int), ([] : List Int), 0, (⟨0, 0, (⟨0, 0, ([] : List UInt8), ([] : List UInt8), ([] : List UInt8)⟩ : api_Cmd)⟩ : api_Entry)⟩
def the (f : Nat) : api_Msg := ⟨2, (f : Int), 0, 800, 16, 2, true, 0, 0, 0, 0, ([] : List UInt8), 0, 0, ([] : List Int), ([] : List Int), 0, (⟨0, 0, (⟨0, 0, ([] : List UInt8), ([] : List UInt8), ([] : List UInt8)⟩ : api_Cmd)⟩ : api_Entry)⟩
/-- Those that came ahead of i, but for w. -/
def comeW (w i : Nat) : Nat := (2 ^ i - 1) &&& (127 ^^^ (2 ^ w))
theorem comeW_succ {w i : Nat} (hw : 1 ≤ w ∧ w ≤ 4) (hi : i ≤ 4) : comeW w (i + 1) = if i = w then comeW w i else comeW w i ||| 2 ^ i := by
  have h : ∀ w : Fin 5, ∀ i : Fin 5, 1 ≤ (w : Nat) → comeW w ((i : Nat) + 1) = if (i : Nat) = w then comeW w i else comeW w i ||| 2 ^ (i : Nat) := by decide
  exact h ⟨w, by omega⟩ ⟨i, by omega⟩ hw.1
theorem comeW_bit {w i : Nat} (hw : 1 ≤ w ∧ w ≤ 4) (hi : i ≤ 4) : (comeW w i).testBit i = false := by
  have h : ∀ w : Fin 5, ∀ i : Fin 5, (comeW w i).testBit i = false := by decide
  exact h ⟨w, by omega⟩ ⟨i, by omega⟩
/-- What one knows of a row whose first states all are its own. -/
structure RB (l : List api_Msg) (c : Nat) : Prop where
  fst : firstsF 5 l = (l, c)
  top : (topF l) = (true, 16) ∨ l = [own3]
  no : ∀ m ∈ l, m.Has = true → m = own3
theorem RB.snoc {l : List api_Msg} {c : Nat} (h : RB l c) {f : Nat} (hf : f < 5) (hc : c.testBit f = false) (n : Int) : RB (l ++ [blk f n]) (c ||| 2 ^ f) := by
  refine ⟨?_, .inl ?_, ?_⟩
  · rw [firstsF_snoc, h.fst]
    unfold stepF
    have ht : takes 5 c (blk f n) := ⟨rfl, Int.natCast_nonneg f, by show (f : Int) < 5; omega, by show c.testBit (f : Int).toNat = false; simpa using hc⟩
    rw [if_pos ht]
    rfl
  · rw [topF_snoc]
    rcases h.top with h | h
    · rw [h]; rfl
    · rw [h]; rfl
  · intro m hm hh
    simp only [List.mem_append, List.mem_singleton] at hm
    rcases hm with hm | rfl
    · exact h.no m hm hh
    · cases hh
theorem RB.none {l : List api_Msg} {c : Nat} (h : RB l c) (hl : l.length < 90) (ht : topF l = (true, 16)) : ∃ r, view_Choose.f 100 l 5 = some r ∧ r.2.2.2 = false := by
  obtain ⟨r, h1, h2⟩ := choose_eq (K := 100) (l := l) (by omega) (by omega) 5
  refine ⟨r, h1, ?_⟩
  rcases h2 with ⟨h2, _⟩ | ⟨b, h2, _⟩
  · rw [h2]
  · have e : nodes 5 = 5 := by decide
    rw [e, h.fst] at h2
    have hb := h.no b h2.1 h2.2.1.1
    have := h2.2.1.2
    rw [hb, ht] at this
    exact absurd this (by decide)
theorem hocketlaw18_GathBlocks.pure (l : List Int) (who : Int) (_h : l.length ≤ 140737488351232 ∧ ∀ x ∈ l, i64ok x) {o0 : Prop} (_ : o0) : ∃ K r, hocketlaw18_GathBlocks.f K l who = some r := by
  refine ⟨100, sat_pure ?_⟩
  have hb : band .i64 who 255 = who % 256 := band_m who 255 8 rfl (by decide)
  have ht := tmod_nn (x := who % 256) (y := 4) (by omega) (by omega)
  obtain ⟨w, hw, hw1⟩ : ∃ w : Nat, w64 ((Int.tmod (band .i64 who 255) 4) + 1) = w ∧ 1 ≤ w ∧ w ≤ 4 := by
    rw [hb]
    exact ⟨((who % 256).tmod 4 + 1).toNat, by rw [w64_id (by omega)]; omega, by omega, by omega⟩
  unfold hocketlaw18_GathBlocks.f
  refine sat_b (new_eq (n := 5) (i := 0) (by omega) (by omega) 800 own3) ?_
  have hg0 := GI.new (i := 0) (n := 5) (by omega) (by omega) 800 own3
  refine sat_loop (fun v : Int × gath_Gather => (8 - v.1).toNat) (fun v => ∃ i : Nat, v.1 = i ∧ 1 ≤ i ∧ i ≤ 5 ∧ GI 5 (comeW w i) v.2 ∧ v.2.v = 800 ∧ v.2.is = false ∧ v.2.l.length ≤ i ∧ RB v.2.l (comeW w i) ∧ (3 ≤ i → topF v.2.l = (true, 16))) ?_ 100 _ ⟨1, rfl, by omega, by omega, ?_, rfl, rfl, by simp [newG], ?_, by omega⟩ (by simp only; omega)
  · rintro ⟨ii, g⟩ ⟨i, hi, hi1, hi5, hg, hv, his, hl, hR, ht3⟩ ag hag
    simp only at hi hg hv his hl hR ht3
    subst hi
    show Sat (hocketlaw18_GathBlocks.B1 100 who l _ ag (i : Int) g) _
    unfold hocketlaw18_GathBlocks.B1
    have hw5 : w64 ((i : Int) + 1) = ((i + 1 : Nat) : Int) := by rw [w64_succ (by omega) (by omega)]; simp
    rw [hw]
    refine sat_if (fun hlt => ?_) (fun hge => ?_)
    · refine sat_if (fun heq => ?_) (fun hne => ?_)
      · have : i = w := by omega
        subst this
        rw [hw5]
        have hs := comeW_succ hw1 (show i ≤ 4 by omega)
        rw [if_pos rfl] at hs
        refine hag (_, g) ⟨i + 1, rfl, by omega, by omega, by rw [hs]; exact hg, hv, his, by simp only; omega, by rw [hs]; exact hR, fun h3 => ?_⟩ (by simp only; omega)
        rcases hR.top with h | h
        · exact h
        · exfalso
          have h1 := hR.fst
          rw [h] at h1
          have h2 : (1 : Nat) = comeW i i := congrArg Prod.snd h1
          have h : ∀ i : Fin 5, 2 ≤ (i : Nat) → comeW i i ≠ 1 := by decide
          exact h ⟨i, by omega⟩ (by simp only; omega) h2.symm
      · have hs := comeW_succ hw1 (show i ≤ 4 by omega)
        rw [if_neg (show ¬ i = w by omega)] at hs
        have hbit := comeW_bit hw1 (show i ≤ 4 by omega)
        have two : ∀ x : Int, Sat (hocketlaw18_GathBlocks.J2 100 g (i : Int) ag x) (fun _ => True) := fun x => by
          unfold hocketlaw18_GathBlocks.J2
          obtain ⟨y, hy⟩ : ∃ y, band .i64 x 15 = y := ⟨_, rfl⟩
          rw [hy]
          have hyes : TakeOk 5 (comeW w i) g (blk i y) := ⟨his, rfl, hv.symm, Int.natCast_nonneg i, by show (i : Int) < 5; omega, by show (comeW w i).testBit (i : Int).toNat = false; simpa using hbit⟩
          refine sat_b (take_yes hg hyes) (sat_t rfl ?_)
          have hR2 := hR.snoc (f := i) (by omega) hbit y
          have htop : topF (g.l ++ [blk i y]) = (true, 16) := by
            rw [topF_snoc]
            rcases hR.top with h | h
            · rw [h]; rfl
            · rw [h]; rfl
          obtain ⟨r, r1, r2⟩ := hR2.none (by simp; omega) htop
          have hr : view_Choose.f 100 (takeG g (comeW w i) (blk i y)).l (takeG g (comeW w i) (blk i y)).n = some r := by
            show view_Choose.f 100 (g.l ++ [blk i y]) g.n = some r
            rw [hg.hn]
            exact r1
          refine sat_b (commit_no (g := takeG g (comeW w i) (blk i y)) his hr r2) (sat_f (by simp) ?_)
          rw [hw5]
          have hgt := hg.take hyes (by omega)
          have e : comeW w i ||| 2 ^ (blk i y).From.toNat = comeW w (i + 1) := by rw [hs]; rfl
          rw [e] at hgt
          refine hag (_, takeG g (comeW w i) (blk i y)) ⟨i + 1, rfl, by omega, by omega, hgt, hv, his, ?_, ?_, fun _ => htop⟩ (by simp only; omega)
          · show (g.l ++ [blk i y]).length ≤ i + 1
            simp; omega
          · rw [hs]; exact hR2
        refine sat_if (fun hll => ?_) (fun _ => two 0)
        exact sat_b (ix_get (by omega) (by omega)) (two _)
    · have : i = 5 := by omega
      subst this
      show Sat (hocketlaw18_GathBlocks.J1 100 who g) _
      unfold hocketlaw18_GathBlocks.J1
      rw [hw]
      have hbit : (comeW w 5).testBit w = false := by
        have h : ∀ w : Fin 5, (comeW w 5).testBit w = false := by decide
        exact h ⟨w, by omega⟩
      have hyes : TakeOk 5 (comeW w 5) g (the w) := ⟨his, rfl, hv.symm, Int.natCast_nonneg w, by show (w : Int) < 5; omega, by show (comeW w 5).testBit (w : Int).toNat = false; simpa using hbit⟩
      refine sat_b (take_yes hg hyes) (sat_t rfl ?_)
      have hall : comeW w 5 ||| 2 ^ w = 31 := by
        have h : ∀ w : Fin 5, comeW w 5 ||| 2 ^ (w : Nat) = 31 := by decide
        exact h ⟨w, by omega⟩
      have hf : firstsF 5 (g.l ++ [the w]) = (g.l ++ [the w], 31) := by
        rw [firstsF_snoc, hR.fst]
        unfold stepF
        have ht : takes 5 (comeW w 5) (the w) := ⟨rfl, Int.natCast_nonneg w, by show (w : Int) < 5; omega, by show (comeW w 5).testBit (w : Int).toNat = false; simpa using hbit⟩
        rw [if_pos ht]
        show (g.l ++ [the w], comeW w 5 ||| 2 ^ (w : Int).toNat) = _
        rw [Int.toNat_natCast, hall]
      have htop : topF (g.l ++ [the w]) = (true, 16) := by rw [topF_snoc, ht3 (by omega)]; rfl
      obtain ⟨r, r1, r2⟩ := choose_eq (K := 100) (l := g.l ++ [the w]) (by simp; omega) (by simp; omega) 5
      have e5 : nodes 5 = 5 := by decide
      rw [e5] at r2
      have hr : r = (31, (w : Int), 2, true) := by
        unfold Chosen at r2
        rw [hf] at r2
        rcases r2 with ⟨_, h | h⟩ | ⟨b, h1, h2, _⟩
        · exact absurd ⟨rfl, by rw [htop]; rfl⟩ (h (the w) (by simp))
        · exact absurd (show mostN 31 5 = false from h) (by decide)
        · have hb : b = the w := by
            have := h1.1
            simp only [List.mem_append, List.mem_singleton] at this
            rcases this with h | h
            · have h3 := hR.no b h h1.2.1.1
              have h4 := h1.2.1.2
              rw [htop, h3] at h4
              exact absurd h4 (by decide)
            · exact h
          rw [h2, hb]
          rfl
      have hch : view_Choose.f 100 (takeG g (comeW w 5) (the w)).l (takeG g (comeW w 5) (the w)).n = some (31, (w : Int), 2, true) := by
        show view_Choose.f 100 (g.l ++ [the w]) g.n = _
        rw [hg.hn, ← hr]
        exact r1
      refine sat_b (commit_yes (g := takeG g (comeW w 5) (the w)) his hch rfl) (sat_t rfl (sat_t rfl (sat_t rfl (sat_t rfl (sat_t hv (sat_b awake18 (sat_r trivial)))))))
  · have e : comeW w 1 = 2 ^ 0 := by
      have h : ∀ w : Fin 5, 1 ≤ (w : Nat) → comeW w 1 = 2 ^ 0 := by decide
      exact h ⟨w, by omega⟩ hw1.1
    rw [e]
    exact hg0
  · have e : comeW w 1 = 1 := by
      have h : ∀ w : Fin 5, 1 ≤ (w : Nat) → comeW w 1 = 1 := by decide
      exact h ⟨w, by omega⟩ hw1.1
    rw [e]
    exact ⟨rfl, .inr rfl, fun m hm _ => by simpa [newG, own3] using hm⟩
end Go.Gp
