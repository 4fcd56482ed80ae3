/- What the statements say, of the plain functions. -/
import Derived.Test.YtploijfgnnkddaaGreatDefs
import Derived.Test.YtploijfgnnkddaaGreatLe
import Derived.Test.YtploijfgnnkddaaGreatThInts
import Derived.Test.YtploijfgnnkddaaGreatThPack
import Derived.Test.YtploijfgnnkddaaGreatThMesg
import Derived.Test.YtploijfgnnkddaaGreatThMesg2
import Derived.Test.YtploijfgnnkddaaGreatThMesg3
import Derived.Test.YtploijfgnnkddaaGreatThMesg4
import Derived.Test.YtploijfgnnkddaaGreatThMesg5
import Derived.Test.YtploijfgnnkddaaGreatThMesg6
import Derived.Test.YtploijfgnnkddaaGreatThMsg
import Derived.Test.YtploijfgnnkddaaGreatThMesg7
import Derived.Test.YtploijfgnnkddaaGreatThMesg8
import Derived.Test.YtploijfgnnkddaaGreatThMesgS
import Derived.Test.YtploijfgnnkddaaGreatGpCrc
import Derived.Test.YtploijfgnnkddaaGreatThCrc
import Derived.Test.YtploijfgnnkddaaGreatThFram
import Derived.Test.YtploijfgnnkddaaGreatThPack1
import Derived.Test.YtploijfgnnkddaaGreatThMesg9
import Derived.Test.YtploijfgnnkddaaGreatThMesg10
import Derived.Test.YtploijfgnnkddaaGreatThRows
import Derived.Test.YtploijfgnnkddaaGreatThMach
import Derived.Test.YtploijfgnnkddaaGreatThMach2
/- Machines in bytes: Decode. -/
namespace Go.Gp
open Go
theorem B1i {K : Nat} (hK : 150 ≤ K) {b : List UInt8} (hb : b.length ≤ 1000000000) (bad : Bool) : A1Q.f K b bad = some (A2e b bad) := by
  unfold A1Q.f A2e rd2 A3E; rw [show (1073741824 : Int) = gig from rfl]; have s1 := A0K gig b bad; rw [Z0 (by omega) (by omega)]; simp only [Option.bind_some]; generalize H6 gig b bad = p1 at *; have s2 := A0K gig p1.2.1 p1.2.2; rw [Z0 (by omega) (by omega)]; simp only [Option.bind_some]; generalize H6 gig p1.2.1 p1.2.2 = p2 at *; have s3 := A0K 10 p2.2.1 p2.2.2; rw [Z0 (by omega) (by omega)]; simp only [Option.bind_some]; generalize H6 10 p2.2.1 p2.2.2 = p3 at *; have s4 := A0K 1073741825 p3.2.1 p3.2.2; rw [Z0 (by omega) (by omega)]; simp only [Option.bind_some]; generalize H6 1073741825 p3.2.1 p3.2.2 = p4 at *; rw [A1D (by omega) (by omega)]
  rfl
theorem A3B (top : Int) (b : List UInt8) (bad : Bool) : ∃ n : Nat, (H6 top b bad).1 = n ∧ n ≤ I8 top := ⟨(H6 top b bad).1.toNat, by have := A2n top b bad; omega, by have := A2n top b bad; omega⟩
theorem A2Z (top : Int) (b : List UInt8) (bad : Bool) : 0 ≤ (O5 top b bad).1 ∧ (O5 top b bad).1 ≤ I8 top := by
  unfold O5
  cases bad with
  | true => simp
  | false =>
    rw [if_neg (by simp)]
    cases hr : rd top b with
    | none => simp
    | some p => obtain ⟨h1, _⟩ := A2T (n := p.1) (r := p.2) hr; simp only; omega
theorem A3P (top : Int) (b : List UInt8) (bad : Bool) : ∃ n : Nat, (O5 top b bad).1 = n ∧ n ≤ I8 top := ⟨(O5 top b bad).1.toNat, by have := A2Z top b bad; omega, by have := A2Z top b bad; omega⟩
theorem A7Z {K : Nat} (hK : 150 ≤ K) {b : List UInt8} (hb : b.length ≤ 1000000000) (bad : Bool) : D9.f K b bad = some (A3m b bad) := by
  have e5 : I8 5 = 5 := by decide
  unfold D9.f; have s1 := (A2f 16 b bad).1; rw [A1D (by omega) (by omega)]; simp only [Option.bind_some]; obtain ⟨p1, hp1⟩ : ∃ p, J0 16 b bad = p := ⟨_, rfl⟩; rw [hp1] at s1 ⊢; have s2 := A0K 8 p1.2.1 p1.2.2; obtain ⟨n2, g2, k2⟩ := A3B 8 p1.2.1 p1.2.2; rw [Z0 (by omega) (by omega)]; simp only [Option.bind_some]; obtain ⟨p2, hp2⟩ : ∃ p, H6 8 p1.2.1 p1.2.2 = p := ⟨_, rfl⟩; rw [hp2] at s2 g2 ⊢; rw [h8] at k2; have l4 := A3e (rd := J0 16) (f := fun again v => D9.B4 K p2 (fun v => D9.J1 K p1 v.1 v.2.1 v.2.2) again v.1 v.2.1 v.2.2.1 v.2.2.2) (fun i b bad out => ((i : Int), b, bad, out)) (g := fun b bad out => D9.J1 K p1 b bad out) (k := n2) (lim := 1000000000) (A2c 16) (fun ag i b bad out hi hb ho => by
    simp only; unfold D9.B4; rw [g2, if_pos (by omega), A1D (by omega) (by omega)]; simp only [Option.bind_some]; rw [R6 (by simp only [List.length_singleton]; omega)]; simp only [Option.bind_some]; rw [Q2 (by omega)]) (fun ag b bad out hb ho => by
    simp only; unfold D9.B4; rw [g2, if_neg (by omega)]) n2 0 K p2.2.1 p2.2.2 [] (by omega) (by omega) (by omega) rfl
  refine Eq.trans l4 ?_; have s3 := (A1l (A2c 16) n2 p2.2.1 p2.2.2).2; obtain ⟨p3, hp3⟩ : ∃ p, readN (J0 16) n2 p2.2.1 p2.2.2 = p := ⟨_, rfl⟩; rw [hp3] at s3 ⊢; rw [List.nil_append]; unfold D9.J1; have s4 := A0K 5 p3.2.1 p3.2.2; obtain ⟨n4, g4, k4⟩ := A3B 5 p3.2.1 p3.2.2; rw [Z0 (by omega) (by omega)]; simp only [Option.bind_some]; obtain ⟨p4, hp4⟩ : ∃ p, H6 5 p3.2.1 p3.2.2 = p := ⟨_, rfl⟩; rw [hp4] at s4 g4 ⊢; rw [e5] at k4; have l3 := A3e (rd := H6 999) (f := fun again v => D9.B3 K p4 (fun v => D9.J2 K p1 p3.1 v.1 v.2.1 v.2.2) again v.1 v.2.1 v.2.2.1 v.2.2.2) (fun i b bad out => ((i : Int), b, bad, out)) (g := fun b bad out => D9.J2 K p1 p3.1 b bad out) (k := n4) (lim := 1000000000) (A2B 999) (fun ag i b bad out hi hb ho => by
    simp only; unfold D9.B3; rw [g4, if_pos (by omega), Z0 (by omega) (by omega)]; simp only [Option.bind_some]; rw [R6 (by simp only [List.length_singleton]; omega)]; simp only [Option.bind_some]; rw [Q2 (by omega)]) (fun ag b bad out hb ho => by
    simp only; unfold D9.B3; rw [g4, if_neg (by omega)]) n4 0 K p4.2.1 p4.2.2 [] (by omega) (by omega) (by omega) rfl
  refine Eq.trans l3 ?_; have s5 := (A1l (A2B 999) n4 p4.2.1 p4.2.2).2; obtain ⟨p5, hp5⟩ : ∃ p, readN (H6 999) n4 p4.2.1 p4.2.2 = p := ⟨_, rfl⟩; rw [hp5] at s5 ⊢; rw [List.nil_append]; unfold D9.J2; have s6 := A0K 8 p5.2.1 p5.2.2; obtain ⟨n6, g6, k6⟩ := A3B 8 p5.2.1 p5.2.2; rw [Z0 (by omega) (by omega)]; simp only [Option.bind_some]; obtain ⟨p6, hp6⟩ : ∃ p, H6 8 p5.2.1 p5.2.2 = p := ⟨_, rfl⟩; rw [hp6] at s6 g6 ⊢; rw [h8] at k6; have l2 := A3e (rd := A2p) (f := fun again v => D9.B2 K p6 (fun v => D9.J3 K p1 p3.1 p5.1 v.1 v.2.1 v.2.2) again v.1 v.2.1 v.2.2.1 v.2.2.2) (fun i b bad out => ((i : Int), b, bad, out)) (g := fun b bad out => D9.J3 K p1 p3.1 p5.1 b bad out) (k := n6) (lim := 1000000000) A4q (fun ag i b bad out hi hb ho => by
    simp only; unfold D9.B2; have := (A2f 8 b bad).1; rw [g6, if_pos (by omega), A1D (by omega) (by omega)]; simp only [Option.bind_some]; rw [A1D (by omega) (by omega)]; simp only [Option.bind_some]; rw [R6 (by simp only [List.length_singleton]; omega)]; simp only [Option.bind_some]; rw [Q2 (by omega)]
    rfl) (fun ag b bad out hb ho => by
    simp only; unfold D9.B2; rw [g6, if_neg (by omega)]) n6 0 K p6.2.1 p6.2.2 [] (by omega) (by omega) (by omega) rfl
  refine Eq.trans l2 ?_; have s7 := (A1l A4q n6 p6.2.1 p6.2.2).2; obtain ⟨p7, hp7⟩ : ∃ p, readN A2p n6 p6.2.1 p6.2.2 = p := ⟨_, rfl⟩; rw [hp7] at s7 ⊢; rw [List.nil_append]; unfold D9.J3; have s8 := A0K 8 p7.2.1 p7.2.2; obtain ⟨n8, g8, k8⟩ := A3B 8 p7.2.1 p7.2.2; rw [Z0 (by omega) (by omega)]; simp only [Option.bind_some]; obtain ⟨p8, hp8⟩ : ∃ p, H6 8 p7.2.1 p7.2.2 = p := ⟨_, rfl⟩; rw [hp8] at s8 g8 ⊢; rw [h8] at k8; have l1 := A3e (rd := A2e) (f := fun again v => D9.B1 K p8 (fun v => D9.J4 K p1 p3.1 p5.1 p7.1 v.1 v.2.1 v.2.2) again v.1 v.2.1 v.2.2.1 v.2.2.2) (fun i b bad out => ((i : Int), b, bad, out)) (g := fun b bad out => D9.J4 K p1 p3.1 p5.1 p7.1 b bad out) (k := n8) (lim := 1000000000) A5k (fun ag i b bad out hi hb ho => by
    simp only; unfold D9.B1; rw [g8, if_pos (by omega), B1i hK (by omega)]; simp only [Option.bind_some]; rw [R6 (by simp only [List.length_singleton]; omega)]; simp only [Option.bind_some]; rw [Q2 (by omega)]) (fun ag b bad out hb ho => by
    simp only; unfold D9.B1; rw [g8, if_neg (by omega)]) n8 0 K p8.2.1 p8.2.2 [] (by omega) (by omega) (by omega) rfl
  refine Eq.trans l1 ?_; rw [List.nil_append]; unfold D9.J4 A3m A5E rd2 A5I Y6; dsimp only; rw [hp1, hp2, g2, Int.toNat_natCast, hp3, hp4, g4, Int.toNat_natCast, hp5, hp6, g6, Int.toNat_natCast, hp7, hp8, g8, Int.toNat_natCast]
theorem A9s {K : Nat} {l : List A7} (hl : l.length < K) (hl2 : l.length ≤ 1000000) : C5.f K l = some (decide (l.Pairwise (fun a b => slt a.Key b.Key = true))) := by
  suffices h : Sat (C5.f K l) (fun r => r = decide (l.Pairwise (fun a b => slt a.Key b.Key = true))) by
    obtain ⟨r, h1, h2⟩ := h; rw [h1, h2]
  unfold C5.f; refine A1b (fun v : Int => ((l.length : Int) + 1 - v).toNat) (fun v => ∃ i : Nat, v = (i : Int) + 1 ∧ i ≤ l.length ∧ ∀ (j : Nat) (h : j + 1 < l.length), j < i → slt (l[j]'(by omega)).Key l[j + 1].Key = true) ?_ K _ ⟨0, rfl, by omega, by omega⟩ (by omega); rintro _ ⟨i, rfl, h2, h3⟩ ag hag; show Sat (C5.B1 K l _ ag _) _; unfold C5.B1; refine J9 (fun hlt => ?_) (fun hge => ?_)
  · have hi : i + 1 < l.length := by omega
    have e1 : ((i : Int) + 1) = ((i + 1 : Nat) : Int) := by simp
    have e2 : w64 (((i : Int) + 1) - 1) = ((i : Nat) : Int) := by rw [T9 (by omega)]; omega
    rw [e2, e1]; refine E4 (O7 (by omega) (by simpa using hi)) (E4 (O7 (by omega) (by rw [Int.toNat_natCast]; omega)) ?_); simp only [Int.toNat_natCast]; unfold A1O.f A1B.f; refine E4 rfl (J9 (fun hc => ?_) (fun hc => ?_))
    · rw [decide_eq_true_eq, A5u] at hc; rw [Q2 (by omega)]; refine hag _ ⟨i + 1, by simp, by omega, fun j hj hji => ?_⟩ (by omega)
      by_cases hje : j = i
      · subst hje; exact hc
      · exact h3 j hj (by omega)
    · refine O4 ?_; symm; rw [decide_eq_false_iff_not]; intro hp; rw [decide_eq_true_eq, A5u] at hc; exact hc (A7q hp i hi)
  · show Sat (C5.J1 K) _; unfold C5.J1; refine O4 ?_; symm; rw [decide_eq_true_eq]; exact A5v (R := fun a b : A7 => slt a.Key b.Key = true) (fun h k => A3L h k) (fun j hj => h3 j hj (by omega))
theorem A9t {K : Nat} {l : List B6} (hl : l.length < K) (hl2 : l.length ≤ 1000000) : C6.f K l = some (decide (l.Pairwise (fun a b => a.Sess < b.Sess))) := by
  suffices h : Sat (C6.f K l) (fun r => r = decide (l.Pairwise (fun a b => a.Sess < b.Sess))) by
    obtain ⟨r, h1, h2⟩ := h; rw [h1, h2]
  unfold C6.f; refine A1b (fun v : Int => ((l.length : Int) + 1 - v).toNat) (fun v => ∃ i : Nat, v = (i : Int) + 1 ∧ i ≤ l.length ∧ ∀ (j : Nat) (h : j + 1 < l.length), j < i → (l[j]'(by omega)).Sess < l[j + 1].Sess) ?_ K _ ⟨0, rfl, by omega, by omega⟩ (by omega); rintro _ ⟨i, rfl, h2, h3⟩ ag hag; show Sat (C6.B1 K l _ ag _) _; unfold C6.B1; refine J9 (fun hlt => ?_) (fun hge => ?_)
  · have hi : i + 1 < l.length := by omega
    have e1 : ((i : Int) + 1) = ((i + 1 : Nat) : Int) := by simp
    have e2 : w64 (((i : Int) + 1) - 1) = ((i : Nat) : Int) := by rw [T9 (by omega)]; omega
    rw [e2, e1]; refine E4 (O7 (by omega) (by simpa using hi)) (E4 (O7 (by omega) (by rw [Int.toNat_natCast]; omega)) ?_); simp only [Int.toNat_natCast]; unfold A1N.f; refine E4 rfl (J9 (fun hc => ?_) (fun hc => ?_))
    · rw [decide_eq_true_eq] at hc; rw [Q2 (by omega)]; refine hag _ ⟨i + 1, by simp, by omega, fun j hj hji => ?_⟩ (by omega)
      by_cases hje : j = i
      · subst hje; omega
      · exact h3 j hj (by omega)
    · refine O4 ?_; symm; rw [decide_eq_false_iff_not]; intro hp; rw [decide_eq_true_eq] at hc; have := A7q hp i hi; omega
  · show Sat (C6.J1 K) _; unfold C6.J1; refine O4 ?_; symm; rw [decide_eq_true_eq]; exact A5v (R := fun a b : B6 => a.Sess < b.Sess) (fun h k => by omega) (fun j hj => h3 j hj (by omega))
theorem A7w {K : Nat} (hK : 150 ≤ K) {m : A5} (hm : A4m m) : H9.f K m = some (decide (A1g m)) := by
  have l1 := hm.l; have p1 := hm.p.1; have t1 := hm.t.1
  suffices h : Sat (H9.f K m) (fun r => r = decide (A1g m)) by
    obtain ⟨r, h1, h2⟩ := h; rw [h1, h2]
  unfold H9.f; refine A1b (fun v : Int => ((m.Objects.Lock.length : Int) - v).toNat) (fun v => ∃ i : Nat, v = (i : Int) ∧ i ≤ m.Objects.Lock.length ∧ (m.Objects.Lock.take i).Nodup) ?_ K _ ⟨0, rfl, by omega, by simp⟩ (by omega); rintro _ ⟨i, rfl, h2, h3⟩ ag hag; show Sat (H9.B2 K m _ ag _) _; unfold H9.B2; refine J9 (fun hlt => ?_) (fun hge => ?_)
  · have hi : i < m.Objects.Lock.length := by omega
    refine E4 (O7 (by omega) (by simpa using hi)) (E4 (A1f ⟨by omega, by omega, by omega⟩) ?_); simp only [Int.toNat_natCast, Int.toNat_zero, List.drop_zero]; refine E4 (A7J (by rw [List.length_take]; omega) (by rw [List.length_take]; omega) _) (J9 (fun hc => ?_) (fun hc => ?_))
    · rw [decide_eq_true_eq] at hc; refine O4 ?_; symm; rw [decide_eq_false_iff_not]; intro hr; have hn := hr.1.sublist (List.take_sublist (i + 1) m.Objects.Lock); rw [← List.take_append_getElem (l := m.Objects.Lock) (i := i) hi, List.nodup_append] at hn; exact hn.2.2 _ hc _ (by simp) rfl
    · rw [decide_eq_true_eq] at hc; rw [Q2 (by omega)]; refine hag _ ⟨i + 1, rfl, by omega, ?_⟩ (by omega); rw [← List.take_append_getElem (l := m.Objects.Lock) (i := i) hi, List.nodup_append]; refine ⟨h3, by simp, fun a ha b hb e => ?_⟩; obtain rfl := List.mem_singleton.1 hb; exact hc (e ▸ ha)
  · have : i = m.Objects.Lock.length := by omega
    subst this; rw [List.take_length] at h3; show Sat (H9.J1 K m) _; unfold H9.J1; refine A1b (fun v : Int => ((m.Table.length : Int) - v).toNat) (fun v => ∃ i : Nat, v = (i : Int) ∧ i ≤ m.Table.length ∧ ∀ l ∈ m.Table.take i, 1 ≤ l.Sess ∧ 1 ≤ l.Seq) ?_ K _ ⟨0, rfl, by omega, by simp⟩ (by omega); rintro _ ⟨i, rfl, g2, g3⟩ ag2 hag2; show Sat (H9.B1 K m _ ag2 _) _; unfold H9.B1; refine J9 (fun hlt => ?_) (fun hge => ?_)
    · have hi : i < m.Table.length := by omega
      have bad : ¬(1 ≤ m.Table[i].Sess ∧ 1 ≤ m.Table[i].Seq) → false = decide (A1g m) := fun hb => by
        symm; rw [decide_eq_false_iff_not]; exact fun hr => hb (hr.2.1 _ (List.getElem_mem hi))
      refine E4 (O7 (by omega) (by simpa using hi)) ?_; simp only [Int.toNat_natCast]; refine J9 (fun hc => O4 (bad (by omega))) (fun hc => J9 (fun hd => O4 (bad (by omega))) (fun hd => ?_)); rw [Q2 (by omega)]; refine hag2 _ ⟨i + 1, rfl, by omega, fun l hl => ?_⟩ (by omega); rw [← List.take_append_getElem (l := m.Table) (i := i) hi] at hl
      rcases List.mem_append.1 hl with hl | hl
      · exact g3 l hl
      · obtain rfl := List.mem_singleton.1 hl; omega
    · have : i = m.Table.length := by omega
      subst this; rw [List.take_length] at g3; show Sat (H9.J2 K m) _; unfold H9.J2; refine E4 (A9s (by omega) (by omega)) (J9 (fun hc => ?_) (fun hc => ?_))
      · rw [decide_eq_true_eq] at hc; refine E4 (A9t (by omega) (by omega)) (O4 ?_); exact decide_eq_decide.2 ⟨fun h => ⟨h3, g3, hc, h⟩, fun h => h.2.2.2⟩
      · rw [decide_eq_true_eq] at hc; refine O4 ?_; symm; rw [decide_eq_false_iff_not]; exact fun hr => hc hr.2.2.1
theorem A8G (b : List UInt8) (bad : Bool) : A4m (A3m b bad).1 := by
  have e5 : I8 5 = 5 := by decide
  have hb : ∀ (top : Int) (b : List UInt8) (bad : Bool), (J0 top b bad).1.length ≤ I8 top := fun top b bad => by
    unfold J0
    cases hr : rdB top b with
    | none => simp
    | some p => exact (A2y (x := p.1) (r := p.2) hr).1
  have hrow : ∀ {α : Type} (rd : Rdr α) (hs : Shr rd) (top : Int) (b : List UInt8) (bad : Bool), (Y6 (H6 top) rd b bad).1.length ≤ I8 top := fun rd hs top b bad => by
    unfold Y6; rw [(A1l hs _ _ _).1]; have := A2n top b bad; omega
  have hmem : ∀ {α : Type} (rd : Rdr α) (Q : α → Prop), (∀ b bad, Q (rd b bad).1) → ∀ (k : Nat) (b : List UInt8) (bad : Bool), ∀ x ∈ (readN rd k b bad).1, Q x := fun rd Q hq k => by
    induction k with
    | zero => intro b bad x hx; cases hx
    | succ k ih =>
      intro b bad x hx; rw [A0S] at hx
      rcases List.mem_cons.1 hx with rfl | hx
      · exact hq _ _
      · exact ih _ _ x hx
  have q1 := hb 16 b bad; rw [h16] at q1; unfold A3m A5E rd2 A5I; dsimp only; generalize J0 16 b bad = p1 at *; have q2 := hrow (J0 16) (A2c 16) 8 p1.2.1 p1.2.2; have q2' := hmem (J0 16) (fun x => x.length ≤ 1000) (fun b bad => by have := hb 16 b bad; rw [h16] at this; omega) (H6 8 p1.2.1 p1.2.2).1.toNat (H6 8 p1.2.1 p1.2.2).2.1 (H6 8 p1.2.1 p1.2.2).2.2; change ∀ x ∈ (Y6 (H6 8) (J0 16) p1.2.1 p1.2.2).1, _ at q2'; generalize Y6 (H6 8) (J0 16) p1.2.1 p1.2.2 = p2 at *; have q3 := hrow (H6 999) (A2B 999) 5 p2.2.1 p2.2.2; generalize Y6 (H6 5) (H6 999) p2.2.1 p2.2.2 = p3 at *; have q4 := hrow A2p A4q 8 p3.2.1 p3.2.2; have q4' := hmem A2p (fun x => x.Key.length ≤ 1000 ∧ x.Val.length ≤ 1000) (fun b bad => by
    have g1 := hb 8 b bad; have g2 := hb 16 (J0 8 b bad).2.1 (J0 8 b bad).2.2; rw [h8] at g1; rw [h16] at g2; exact ⟨show (J0 8 b bad).1.length ≤ 1000 by omega, show (J0 16 (J0 8 b bad).2.1 (J0 8 b bad).2.2).1.length ≤ 1000 by omega⟩) (H6 8 p3.2.1 p3.2.2).1.toNat (H6 8 p3.2.1 p3.2.2).2.1 (H6 8 p3.2.1 p3.2.2).2.2
  change ∀ x ∈ (Y6 (H6 8) A2p p3.2.1 p3.2.2).1, _ at q4'; generalize Y6 (H6 8) A2p p3.2.1 p3.2.2 = p4 at *; have q5 := hrow A2e A5k 8 p4.2.1 p4.2.2; have q5' := hmem A2e (fun x => x.Result.Val.length ≤ 1000) (fun b bad => by
    have g2 : ∀ b bad, (J0 16 b bad).1.length ≤ 1000 := fun b bad => by have := hb 16 b bad; rw [h16] at this; omega
    exact g2 _ _) (H6 8 p4.2.1 p4.2.2).1.toNat (H6 8 p4.2.1 p4.2.2).2.1 (H6 8 p4.2.1 p4.2.2).2.2
  change ∀ x ∈ (Y6 (H6 8) A2e p4.2.1 p4.2.2).1, _ at q5'; generalize Y6 (H6 8) A2e p4.2.1 p4.2.2 = p5 at *; rw [h8] at q2 q4 q5; rw [e5] at q3; exact ⟨by simp only; omega, ⟨by simp only; omega, q2'⟩, by simp only; omega, ⟨by simp only; omega, q4'⟩, ⟨by simp only; omega, q5'⟩⟩
theorem A6V {K : Nat} (hK : 150 ≤ K) {b : List UInt8} (hb : b.length ≤ 1000000000) : X7.f K b = some (A1j b) := by
  unfold X7.f A1j; rw [A5X (by omega)]; simp only [Option.bind_some]; rw [A7Z hK hb]; simp only [Option.bind_some]; unfold X4.f; have hs := A8G b false; generalize A3m b false = p at *; obtain ⟨m, r, bad⟩ := p; dsimp only at hs ⊢
  cases bad with
  | true => simp [X7.J1, A0r]
  | false =>
    by_cases h0 : r = []
    · subst h0; simp only [Bool.false_eq_true, if_false, Option.bind_some, List.length_nil]; rw [if_pos (by decide), A7w hK hs]; simp only [Option.bind_some]; unfold X7.J1
      by_cases hr : A1g m
      · simp [hr]
      · simp [hr, A0r]
    · have : ((r.length : Int) == 0) = false := by
        have : r.length ≠ 0 := fun g => h0 (List.eq_nil_of_length_eq_zero g); simp only [beq_eq_false_iff_ne]; omega
      simp [this, h0, X7.J1, A0r]
end Go.Gp
