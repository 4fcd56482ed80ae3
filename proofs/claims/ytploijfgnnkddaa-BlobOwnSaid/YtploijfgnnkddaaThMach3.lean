/- What the statements say, of the plain functions. -/
import Derived.Test.YtploijfgnnkddaaDefs
import Derived.Test.YtploijfgnnkddaaLe
import Derived.Test.YtploijfgnnkddaaThInts
import Derived.Test.YtploijfgnnkddaaThPack
import Derived.Test.YtploijfgnnkddaaThMesg
import Derived.Test.YtploijfgnnkddaaThMesg2
import Derived.Test.YtploijfgnnkddaaThMesg3
import Derived.Test.YtploijfgnnkddaaThMesg4
import Derived.Test.YtploijfgnnkddaaThMesg5
import Derived.Test.YtploijfgnnkddaaThMesg6
import Derived.Test.YtploijfgnnkddaaThMsg
import Derived.Test.YtploijfgnnkddaaThMesg7
import Derived.Test.YtploijfgnnkddaaThMesg8
import Derived.Test.YtploijfgnnkddaaThMesgS
import Derived.Test.YtploijfgnnkddaaGpCrc
import Derived.Test.YtploijfgnnkddaaThCrc
import Derived.Test.YtploijfgnnkddaaThFram
import Derived.Test.YtploijfgnnkddaaThPack1
import Derived.Test.YtploijfgnnkddaaThMesg9
import Derived.Test.YtploijfgnnkddaaThMesg10
import Derived.Test.YtploijfgnnkddaaThRows
import Derived.Test.YtploijfgnnkddaaThMach
import Derived.Test.YtploijfgnnkddaaThMach2
/- Machines in bytes: Decode. -/
namespace Go.Gp
open Go
theorem last_eq {K : Nat} (hK : 150 ≤ K) {b : List UInt8} (hb : b.length ≤ 1000000000) (bad : Bool) : mach_last.f K b bad = some (rdLast b bad) := by
  unfold mach_last.f rdLast rd2 mkLast
  rw [show (1073741824 : Int) = gig from rfl]
  have s1 := rnum_le gig b bad
  rw [rnum_eq (by omega) (by omega)]
  simp only [Option.bind_some]
  generalize rnum gig b bad = p1 at *
  have s2 := rnum_le gig p1.2.1 p1.2.2
  rw [rnum_eq (by omega) (by omega)]
  simp only [Option.bind_some]
  generalize rnum gig p1.2.1 p1.2.2 = p2 at *
  have s3 := rnum_le 10 p2.2.1 p2.2.2
  rw [rnum_eq (by omega) (by omega)]
  simp only [Option.bind_some]
  generalize rnum 10 p2.2.1 p2.2.2 = p3 at *
  have s4 := rnum_le 1073741825 p3.2.1 p3.2.2
  rw [rnum_eq (by omega) (by omega)]
  simp only [Option.bind_some]
  generalize rnum 1073741825 p3.2.1 p3.2.2 = p4 at *
  rw [rbytes_eq (by omega) (by omega)]
  rfl
theorem rnum_nat (top : Int) (b : List UInt8) (bad : Bool) : ∃ n : Nat, (rnum top b bad).1 = n ∧ n ≤ held2 top := ⟨(rnum top b bad).1.toNat, by have := rnum_range top b bad; omega, by have := rnum_range top b bad; omega⟩
theorem machRead_eq {K : Nat} (hK : 150 ≤ K) {b : List UInt8} (hb : b.length ≤ 1000000000) (bad : Bool) : mach_read.f K b bad = some (rdMa b bad) := by
  have e5 : held2 5 = 5 := by decide
  unfold mach_read.f
  have s1 := (rbytes_le 16 b bad).1
  rw [rbytes_eq (by omega) (by omega)]
  simp only [Option.bind_some]
  obtain ⟨p1, hp1⟩ : ∃ p, rbytes 16 b bad = p := ⟨_, rfl⟩
  rw [hp1] at s1 ⊢
  have s2 := rnum_le 8 p1.2.1 p1.2.2
  obtain ⟨n2, g2, k2⟩ := rnum_nat 8 p1.2.1 p1.2.2
  rw [rnum_eq (by omega) (by omega)]
  simp only [Option.bind_some]
  obtain ⟨p2, hp2⟩ : ∃ p, rnum 8 p1.2.1 p1.2.2 = p := ⟨_, rfl⟩
  rw [hp2] at s2 g2 ⊢
  rw [h8] at k2
  have l4 := read_iter (rd := rbytes 16) (f := fun again v => mach_read.B4 K p2 (fun v => mach_read.J1 K p1 v.1 v.2.1 v.2.2) again v.1 v.2.1 v.2.2.1 v.2.2.2) (fun i b bad out => ((i : Int), b, bad, out)) (g := fun b bad out => mach_read.J1 K p1 b bad out) (k := n2) (lim := 1000000000) (shr_bytes 16) (fun ag i b bad out hi hb ho => by
    simp only
    unfold mach_read.B4
    rw [g2, if_pos (by omega), rbytes_eq (by omega) (by omega)]
    simp only [Option.bind_some]
    rw [app_eq (by simp only [List.length_singleton]; omega)]
    simp only [Option.bind_some]
    rw [w64_succN (by omega)]) (fun ag b bad out hb ho => by
    simp only
    unfold mach_read.B4
    rw [g2, if_neg (by omega)]) n2 0 K p2.2.1 p2.2.2 [] (by omega) (by omega) (by omega) rfl
  refine Eq.trans l4 ?_
  have s3 := (readN_len (shr_bytes 16) n2 p2.2.1 p2.2.2).2
  obtain ⟨p3, hp3⟩ : ∃ p, readN (rbytes 16) n2 p2.2.1 p2.2.2 = p := ⟨_, rfl⟩
  rw [hp3] at s3 ⊢
  rw [List.nil_append]
  unfold mach_read.J1
  have s4 := rnum_le 5 p3.2.1 p3.2.2
  obtain ⟨n4, g4, k4⟩ := rnum_nat 5 p3.2.1 p3.2.2
  rw [rnum_eq (by omega) (by omega)]
  simp only [Option.bind_some]
  obtain ⟨p4, hp4⟩ : ∃ p, rnum 5 p3.2.1 p3.2.2 = p := ⟨_, rfl⟩
  rw [hp4] at s4 g4 ⊢
  rw [e5] at k4
  have l3 := read_iter (rd := rnum 999) (f := fun again v => mach_read.B3 K p4 (fun v => mach_read.J2 K p1 p3.1 v.1 v.2.1 v.2.2) again v.1 v.2.1 v.2.2.1 v.2.2.2) (fun i b bad out => ((i : Int), b, bad, out)) (g := fun b bad out => mach_read.J2 K p1 p3.1 b bad out) (k := n4) (lim := 1000000000) (shr_num 999) (fun ag i b bad out hi hb ho => by
    simp only
    unfold mach_read.B3
    rw [g4, if_pos (by omega), rnum_eq (by omega) (by omega)]
    simp only [Option.bind_some]
    rw [app_eq (by simp only [List.length_singleton]; omega)]
    simp only [Option.bind_some]
    rw [w64_succN (by omega)]) (fun ag b bad out hb ho => by
    simp only
    unfold mach_read.B3
    rw [g4, if_neg (by omega)]) n4 0 K p4.2.1 p4.2.2 [] (by omega) (by omega) (by omega) rfl
  refine Eq.trans l3 ?_
  have s5 := (readN_len (shr_num 999) n4 p4.2.1 p4.2.2).2
  obtain ⟨p5, hp5⟩ : ∃ p, readN (rnum 999) n4 p4.2.1 p4.2.2 = p := ⟨_, rfl⟩
  rw [hp5] at s5 ⊢
  rw [List.nil_append]
  unfold mach_read.J2
  have s6 := rnum_le 8 p5.2.1 p5.2.2
  obtain ⟨n6, g6, k6⟩ := rnum_nat 8 p5.2.1 p5.2.2
  rw [rnum_eq (by omega) (by omega)]
  simp only [Option.bind_some]
  obtain ⟨p6, hp6⟩ : ∃ p, rnum 8 p5.2.1 p5.2.2 = p := ⟨_, rfl⟩
  rw [hp6] at s6 g6 ⊢
  rw [h8] at k6
  have l2 := read_iter (rd := rdPair) (f := fun again v => mach_read.B2 K p6 (fun v => mach_read.J3 K p1 p3.1 p5.1 v.1 v.2.1 v.2.2) again v.1 v.2.1 v.2.2.1 v.2.2.2) (fun i b bad out => ((i : Int), b, bad, out)) (g := fun b bad out => mach_read.J3 K p1 p3.1 p5.1 b bad out) (k := n6) (lim := 1000000000) shr_pair (fun ag i b bad out hi hb ho => by
    simp only
    unfold mach_read.B2
    have := (rbytes_le 8 b bad).1
    rw [g6, if_pos (by omega), rbytes_eq (by omega) (by omega)]
    simp only [Option.bind_some]
    rw [rbytes_eq (by omega) (by omega)]
    simp only [Option.bind_some]
    rw [app_eq (by simp only [List.length_singleton]; omega)]
    simp only [Option.bind_some]
    rw [w64_succN (by omega)]
    rfl) (fun ag b bad out hb ho => by
    simp only
    unfold mach_read.B2
    rw [g6, if_neg (by omega)]) n6 0 K p6.2.1 p6.2.2 [] (by omega) (by omega) (by omega) rfl
  refine Eq.trans l2 ?_
  have s7 := (readN_len shr_pair n6 p6.2.1 p6.2.2).2
  obtain ⟨p7, hp7⟩ : ∃ p, readN rdPair n6 p6.2.1 p6.2.2 = p := ⟨_, rfl⟩
  rw [hp7] at s7 ⊢
  rw [List.nil_append]
  unfold mach_read.J3
  have s8 := rnum_le 8 p7.2.1 p7.2.2
  obtain ⟨n8, g8, k8⟩ := rnum_nat 8 p7.2.1 p7.2.2
  rw [rnum_eq (by omega) (by omega)]
  simp only [Option.bind_some]
  obtain ⟨p8, hp8⟩ : ∃ p, rnum 8 p7.2.1 p7.2.2 = p := ⟨_, rfl⟩
  rw [hp8] at s8 g8 ⊢
  rw [h8] at k8
  have l1 := read_iter (rd := rdLast) (f := fun again v => mach_read.B1 K p8 (fun v => mach_read.J4 K p1 p3.1 p5.1 p7.1 v.1 v.2.1 v.2.2) again v.1 v.2.1 v.2.2.1 v.2.2.2) (fun i b bad out => ((i : Int), b, bad, out)) (g := fun b bad out => mach_read.J4 K p1 p3.1 p5.1 p7.1 b bad out) (k := n8) (lim := 1000000000) shr_last (fun ag i b bad out hi hb ho => by
    simp only
    unfold mach_read.B1
    rw [g8, if_pos (by omega), last_eq hK (by omega)]
    simp only [Option.bind_some]
    rw [app_eq (by simp only [List.length_singleton]; omega)]
    simp only [Option.bind_some]
    rw [w64_succN (by omega)]) (fun ag b bad out hb ho => by
    simp only
    unfold mach_read.B1
    rw [g8, if_neg (by omega)]) n8 0 K p8.2.1 p8.2.2 [] (by omega) (by omega) (by omega) rfl
  refine Eq.trans l1 ?_
  rw [List.nil_append]
  unfold mach_read.J4 rdMa rdObj rd2 mkObj rdRow
  dsimp only
  rw [hp1, hp2, g2, Int.toNat_natCast, hp3, hp4, g4, Int.toNat_natCast, hp5, hp6, g6, Int.toNat_natCast, hp7, hp8, g8, Int.toNat_natCast]
/-! ### what may be -/
theorem rise_pair {K : Nat} {l : List api_Pair} (hl : l.length < K) (hl2 : l.length ≤ 1000000) : mach_rising_hocket_api_Pair_94.f K l = some (decide (l.Pairwise (fun a b => slt a.Key b.Key = true))) := by
  suffices h : Sat (mach_rising_hocket_api_Pair_94.f K l) (fun r => r = decide (l.Pairwise (fun a b => slt a.Key b.Key = true))) by
    obtain ⟨r, h1, h2⟩ := h; rw [h1, h2]
  unfold mach_rising_hocket_api_Pair_94.f
  refine sat_loop (fun v : Int => ((l.length : Int) + 1 - v).toNat) (fun v => ∃ i : Nat, v = (i : Int) + 1 ∧ i ≤ l.length ∧ ∀ (j : Nat) (h : j + 1 < l.length), j < i → slt (l[j]'(by omega)).Key l[j + 1].Key = true) ?_ K _ ⟨0, rfl, by omega, by omega⟩ (by omega)
  rintro _ ⟨i, rfl, h2, h3⟩ ag hag
  show Sat (mach_rising_hocket_api_Pair_94.B1 K l _ ag _) _
  unfold mach_rising_hocket_api_Pair_94.B1
  refine sat_if (fun hlt => ?_) (fun hge => ?_)
  · have hi : i + 1 < l.length := by omega
    have e1 : ((i : Int) + 1) = ((i + 1 : Nat) : Int) := by simp
    have e2 : w64 (((i : Int) + 1) - 1) = ((i : Nat) : Int) := by rw [w64_id (by omega)]; omega
    rw [e2, e1]
    refine sat_b (ix_get (by omega) (by simpa using hi)) (sat_b (ix_get (by omega) (by rw [Int.toNat_natCast]; omega)) ?_)
    simp only [Int.toNat_natCast]
    unfold mach_right_1.f bytes_Compare.f
    refine sat_b rfl (sat_if (fun hc => ?_) (fun hc => ?_))
    · rw [decide_eq_true_eq, bcmp_pos] at hc
      rw [w64_succN (by omega)]
      refine hag _ ⟨i + 1, by simp, by omega, fun j hj hji => ?_⟩ (by omega)
      by_cases hje : j = i
      · subst hje; exact hc
      · exact h3 j hj (by omega)
    · refine sat_r ?_
      symm
      rw [decide_eq_false_iff_not]
      intro hp
      rw [decide_eq_true_eq, bcmp_pos] at hc
      exact hc (pair_adj hp i hi)
  · show Sat (mach_rising_hocket_api_Pair_94.J1 K) _
    unfold mach_rising_hocket_api_Pair_94.J1
    refine sat_r ?_
    symm
    rw [decide_eq_true_eq]
    exact adj_pair (R := fun a b : api_Pair => slt a.Key b.Key = true) (fun h k => slt_trans h k) (fun j hj => h3 j hj (by omega))
theorem rise_last {K : Nat} {l : List api_Last} (hl : l.length < K) (hl2 : l.length ≤ 1000000) : mach_rising_hocket_api_Last_97.f K l = some (decide (l.Pairwise (fun a b => a.Sess < b.Sess))) := by
  suffices h : Sat (mach_rising_hocket_api_Last_97.f K l) (fun r => r = decide (l.Pairwise (fun a b => a.Sess < b.Sess))) by
    obtain ⟨r, h1, h2⟩ := h; rw [h1, h2]
  unfold mach_rising_hocket_api_Last_97.f
  refine sat_loop (fun v : Int => ((l.length : Int) + 1 - v).toNat) (fun v => ∃ i : Nat, v = (i : Int) + 1 ∧ i ≤ l.length ∧ ∀ (j : Nat) (h : j + 1 < l.length), j < i → (l[j]'(by omega)).Sess < l[j + 1].Sess) ?_ K _ ⟨0, rfl, by omega, by omega⟩ (by omega)
  rintro _ ⟨i, rfl, h2, h3⟩ ag hag
  show Sat (mach_rising_hocket_api_Last_97.B1 K l _ ag _) _
  unfold mach_rising_hocket_api_Last_97.B1
  refine sat_if (fun hlt => ?_) (fun hge => ?_)
  · have hi : i + 1 < l.length := by omega
    have e1 : ((i : Int) + 1) = ((i + 1 : Nat) : Int) := by simp
    have e2 : w64 (((i : Int) + 1) - 1) = ((i : Nat) : Int) := by rw [w64_id (by omega)]; omega
    rw [e2, e1]
    refine sat_b (ix_get (by omega) (by simpa using hi)) (sat_b (ix_get (by omega) (by rw [Int.toNat_natCast]; omega)) ?_)
    simp only [Int.toNat_natCast]
    unfold mach_right_2.f
    refine sat_b rfl (sat_if (fun hc => ?_) (fun hc => ?_))
    · rw [decide_eq_true_eq] at hc
      rw [w64_succN (by omega)]
      refine hag _ ⟨i + 1, by simp, by omega, fun j hj hji => ?_⟩ (by omega)
      by_cases hje : j = i
      · subst hje; omega
      · exact h3 j hj (by omega)
    · refine sat_r ?_
      symm
      rw [decide_eq_false_iff_not]
      intro hp
      rw [decide_eq_true_eq] at hc
      have := pair_adj hp i hi
      omega
  · show Sat (mach_rising_hocket_api_Last_97.J1 K) _
    unfold mach_rising_hocket_api_Last_97.J1
    refine sat_r ?_
    symm
    rw [decide_eq_true_eq]
    exact adj_pair (R := fun a b : api_Last => a.Sess < b.Sess) (fun h k => by omega) (fun j hj => h3 j hj (by omega))
theorem machRight_eq {K : Nat} (hK : 150 ≤ K) {m : api_Machine} (hm : SmallM m) : mach_right.f K m = some (decide (RightM m)) := by
  have l1 := hm.l
  have p1 := hm.p.1
  have t1 := hm.t.1
  suffices h : Sat (mach_right.f K m) (fun r => r = decide (RightM m)) by
    obtain ⟨r, h1, h2⟩ := h; rw [h1, h2]
  unfold mach_right.f
  refine sat_loop (fun v : Int => ((m.Objects.Lock.length : Int) - v).toNat) (fun v => ∃ i : Nat, v = (i : Int) ∧ i ≤ m.Objects.Lock.length ∧ (m.Objects.Lock.take i).Nodup) ?_ K _ ⟨0, rfl, by omega, by simp⟩ (by omega)
  rintro _ ⟨i, rfl, h2, h3⟩ ag hag
  show Sat (mach_right.B2 K m _ ag _) _
  unfold mach_right.B2
  refine sat_if (fun hlt => ?_) (fun hge => ?_)
  · have hi : i < m.Objects.Lock.length := by omega
    refine sat_b (ix_get (by omega) (by simpa using hi)) (sat_b (cut_eq ⟨by omega, by omega, by omega⟩) ?_)
    simp only [Int.toNat_natCast, Int.toNat_zero, List.drop_zero]
    refine sat_b (contains_int (by rw [List.length_take]; omega) (by rw [List.length_take]; omega) _) (sat_if (fun hc => ?_) (fun hc => ?_))
    · rw [decide_eq_true_eq] at hc
      refine sat_r ?_
      symm
      rw [decide_eq_false_iff_not]
      intro hr
      have hn := hr.1.sublist (List.take_sublist (i + 1) m.Objects.Lock)
      rw [← List.take_append_getElem (l := m.Objects.Lock) (i := i) hi, List.nodup_append] at hn
      exact hn.2.2 _ hc _ (by simp) rfl
    · rw [decide_eq_true_eq] at hc
      rw [w64_succN (by omega)]
      refine hag _ ⟨i + 1, rfl, by omega, ?_⟩ (by omega)
      rw [← List.take_append_getElem (l := m.Objects.Lock) (i := i) hi, List.nodup_append]
      refine ⟨h3, by simp, fun a ha b hb e => ?_⟩
      obtain rfl := List.mem_singleton.1 hb
      exact hc (e ▸ ha)
  · have : i = m.Objects.Lock.length := by omega
    subst this
    rw [List.take_length] at h3
    show Sat (mach_right.J1 K m) _
    unfold mach_right.J1
    refine sat_loop (fun v : Int => ((m.Table.length : Int) - v).toNat) (fun v => ∃ i : Nat, v = (i : Int) ∧ i ≤ m.Table.length ∧ ∀ l ∈ m.Table.take i, 1 ≤ l.Sess ∧ 1 ≤ l.Seq) ?_ K _ ⟨0, rfl, by omega, by simp⟩ (by omega)
    rintro _ ⟨i, rfl, g2, g3⟩ ag2 hag2
    show Sat (mach_right.B1 K m _ ag2 _) _
    unfold mach_right.B1
    refine sat_if (fun hlt => ?_) (fun hge => ?_)
    · have hi : i < m.Table.length := by omega
      have bad : ¬(1 ≤ m.Table[i].Sess ∧ 1 ≤ m.Table[i].Seq) → false = decide (RightM m) := fun hb => by
        symm
        rw [decide_eq_false_iff_not]
        exact fun hr => hb (hr.2.1 _ (List.getElem_mem hi))
      refine sat_b (ix_get (by omega) (by simpa using hi)) ?_
      simp only [Int.toNat_natCast]
      refine sat_if (fun hc => sat_r (bad (by omega))) (fun hc => sat_if (fun hd => sat_r (bad (by omega))) (fun hd => ?_))
      rw [w64_succN (by omega)]
      refine hag2 _ ⟨i + 1, rfl, by omega, fun l hl => ?_⟩ (by omega)
      rw [← List.take_append_getElem (l := m.Table) (i := i) hi] at hl
      rcases List.mem_append.1 hl with hl | hl
      · exact g3 l hl
      · obtain rfl := List.mem_singleton.1 hl
        omega
    · have : i = m.Table.length := by omega
      subst this
      rw [List.take_length] at g3
      show Sat (mach_right.J2 K m) _
      unfold mach_right.J2
      refine sat_b (rise_pair (by omega) (by omega)) (sat_if (fun hc => ?_) (fun hc => ?_))
      · rw [decide_eq_true_eq] at hc
        refine sat_b (rise_last (by omega) (by omega)) (sat_r ?_)
        exact decide_eq_decide.2 ⟨fun h => ⟨h3, g3, hc, h⟩, fun h => h.2.2.2⟩
      · rw [decide_eq_true_eq] at hc
        refine sat_r ?_
        symm
        rw [decide_eq_false_iff_not]
        exact fun hr => hc hr.2.2.1
/-- What is read is small, be it right or not. -/
theorem rdMa_small (b : List UInt8) (bad : Bool) : SmallM (rdMa b bad).1 := by
  have e5 : held2 5 = 5 := by decide
  have hb : ∀ (top : Int) (b : List UInt8) (bad : Bool), (rbytes top b bad).1.length ≤ held2 top := fun top b bad => by
    unfold rbytes
    cases hr : rdB top b with
    | none => simp
    | some p => exact (rdB_some (x := p.1) (r := p.2) hr).1
  have hrow : ∀ {α : Type} (rd : Rdr α) (hs : Shr rd) (top : Int) (b : List UInt8) (bad : Bool), (rdRow (rnum top) rd b bad).1.length ≤ held2 top := fun rd hs top b bad => by
    unfold rdRow
    rw [(readN_len hs _ _ _).1]
    have := rnum_range top b bad
    omega
  have hmem : ∀ {α : Type} (rd : Rdr α) (Q : α → Prop), (∀ b bad, Q (rd b bad).1) → ∀ (k : Nat) (b : List UInt8) (bad : Bool), ∀ x ∈ (readN rd k b bad).1, Q x := fun rd Q hq k => by
    induction k with
    | zero => intro b bad x hx; cases hx
    | succ k ih =>
      intro b bad x hx
      rw [readN_succ] at hx
      rcases List.mem_cons.1 hx with rfl | hx
      · exact hq _ _
      · exact ih _ _ x hx
  have q1 := hb 16 b bad
  rw [h16] at q1
  unfold rdMa rdObj rd2 mkObj
  dsimp only
  generalize rbytes 16 b bad = p1 at *
  have q2 := hrow (rbytes 16) (shr_bytes 16) 8 p1.2.1 p1.2.2
  have q2' := hmem (rbytes 16) (fun x => x.length ≤ 1000) (fun b bad => by have := hb 16 b bad; rw [h16] at this; omega) (rnum 8 p1.2.1 p1.2.2).1.toNat (rnum 8 p1.2.1 p1.2.2).2.1 (rnum 8 p1.2.1 p1.2.2).2.2
  change ∀ x ∈ (rdRow (rnum 8) (rbytes 16) p1.2.1 p1.2.2).1, _ at q2'
  generalize rdRow (rnum 8) (rbytes 16) p1.2.1 p1.2.2 = p2 at *
  have q3 := hrow (rnum 999) (shr_num 999) 5 p2.2.1 p2.2.2
  generalize rdRow (rnum 5) (rnum 999) p2.2.1 p2.2.2 = p3 at *
  have q4 := hrow rdPair shr_pair 8 p3.2.1 p3.2.2
  have q4' := hmem rdPair (fun x => x.Key.length ≤ 1000 ∧ x.Val.length ≤ 1000) (fun b bad => by
    have g1 := hb 8 b bad
    have g2 := hb 16 (rbytes 8 b bad).2.1 (rbytes 8 b bad).2.2
    rw [h8] at g1
    rw [h16] at g2
    exact ⟨show (rbytes 8 b bad).1.length ≤ 1000 by omega, show (rbytes 16 (rbytes 8 b bad).2.1 (rbytes 8 b bad).2.2).1.length ≤ 1000 by omega⟩) (rnum 8 p3.2.1 p3.2.2).1.toNat (rnum 8 p3.2.1 p3.2.2).2.1 (rnum 8 p3.2.1 p3.2.2).2.2
  change ∀ x ∈ (rdRow (rnum 8) rdPair p3.2.1 p3.2.2).1, _ at q4'
  generalize rdRow (rnum 8) rdPair p3.2.1 p3.2.2 = p4 at *
  have q5 := hrow rdLast shr_last 8 p4.2.1 p4.2.2
  have q5' := hmem rdLast (fun x => x.Result.Val.length ≤ 1000) (fun b bad => by
    have g2 : ∀ b bad, (rbytes 16 b bad).1.length ≤ 1000 := fun b bad => by have := hb 16 b bad; rw [h16] at this; omega
    exact g2 _ _) (rnum 8 p4.2.1 p4.2.2).1.toNat (rnum 8 p4.2.1 p4.2.2).2.1 (rnum 8 p4.2.1 p4.2.2).2.2
  change ∀ x ∈ (rdRow (rnum 8) rdLast p4.2.1 p4.2.2).1, _ at q5'
  generalize rdRow (rnum 8) rdLast p4.2.1 p4.2.2 = p5 at *
  rw [h8] at q2 q4 q5
  rw [e5] at q3
  exact ⟨by simp only; omega, ⟨by simp only; omega, q2'⟩, by simp only; omega, ⟨by simp only; omega, q4'⟩, ⟨by simp only; omega, q5'⟩⟩
theorem machDecode_eq {K : Nat} (hK : 150 ≤ K) {b : List UInt8} (hb : b.length ≤ 1000000000) : mach_Decode.f K b = some (decMa b) := by
  unfold mach_Decode.f decMa
  rw [read_eq (by omega)]
  simp only [Option.bind_some]
  rw [machRead_eq hK hb]
  simp only [Option.bind_some]
  unfold pack_Reader_End.f
  have hs := rdMa_small b false
  generalize rdMa b false = p at *
  obtain ⟨m, r, bad⟩ := p
  dsimp only at hs ⊢
  cases bad with
  | true => simp [mach_Decode.J1, zmach]
  | false =>
    by_cases h0 : r = []
    · subst h0
      simp only [Bool.false_eq_true, if_false, Option.bind_some, List.length_nil]
      rw [if_pos (by decide), machRight_eq hK hs]
      simp only [Option.bind_some]
      unfold mach_Decode.J1
      by_cases hr : RightM m
      · simp [hr]
      · simp [hr, zmach]
    · have : ((r.length : Int) == 0) = false := by
        have : r.length ≠ 0 := fun g => h0 (List.eq_nil_of_length_eq_zero g)
        simp only [beq_eq_false_iff_ne]; omega
      simp [this, h0, mach_Decode.J1, zmach]
end Go.Gp
