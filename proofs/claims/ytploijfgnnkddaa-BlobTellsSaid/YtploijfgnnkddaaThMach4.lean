/- What the statements say, of the plain functions. -/
import Derived.Test.YtploijfgnnkddaaDefs
import Derived.Test.YtploijfgnnkddaaLe
import Derived.Test.YtploijfgnnkddaaThInts
import Derived.Test.YtploijfgnnkddaaThPack
import Derived.Test.YtploijfgnnkddaaThMesg
import Derived.Test.YtploijfgnnkddaaThMesg2
import Derived.Test.YtploijfgnnkddaaThMesg3
import Derived.Test.YtploijfgnnkddaaThMesg4
import Derived.Test.YtploijfgnnkddaaThMesg5
import Derived.Test.YtploijfgnnkddaaThMesg6
import Derived.Test.YtploijfgnnkddaaThMsg
import Derived.Test.YtploijfgnnkddaaThMesg7
import Derived.Test.YtploijfgnnkddaaThMesg8
import Derived.Test.YtploijfgnnkddaaThMesgS
import Derived.Test.YtploijfgnnkddaaGpCrc
import Derived.Test.YtploijfgnnkddaaThCrc
import Derived.Test.YtploijfgnnkddaaThFram
import Derived.Test.YtploijfgnnkddaaThPack1
import Derived.Test.YtploijfgnnkddaaThMesg9
import Derived.Test.YtploijfgnnkddaaThMesg10
import Derived.Test.YtploijfgnnkddaaThRows
import Derived.Test.YtploijfgnnkddaaThMach
import Derived.Test.YtploijfgnnkddaaThMach2
import Derived.Test.YtploijfgnnkddaaThMach3
/- Machines in bytes: the document's Decode. -/
namespace Go.Gp
open Go
def cLock (out : List Int) (x : Int) : Bool := decide (x ∉ out)
def cMap (out : List api_Pair) (p : api_Pair) : Bool := match out.getLast? with | none => true | some q => slt q.Key p.Key
def cTab (out : List api_Last) (l : api_Last) : Bool := decide (1 ≤ l.Sess ∧ 1 ≤ l.Seq) && match out.getLast? with | none => true | some q => decide (q.Sess < l.Sess)
theorem cLock_eq (xs : List Int) : chkN cLock [] xs = decide xs.Nodup := by
  have h := chk_nodup xs []
  have e : chkN cLock [] xs = chkN (fun out x => decide (x ∉ out)) [] xs := rfl
  rw [e]
  cases hc : chkN (fun out x => decide (x ∉ out)) [] xs with
  | true => symm; rw [decide_eq_true_eq]; exact (h.1 hc).1
  | false => symm; rw [decide_eq_false_iff_not]; intro g; rw [h.2 ⟨g, by simp⟩] at hc; cases hc
theorem cMap_eq (xs : List api_Pair) : chkN cMap [] xs = decide (xs.Pairwise (fun a b => slt a.Key b.Key = true)) := by
  have h := chk_pair (R := fun a b : api_Pair => slt a.Key b.Key = true) (Q := fun _ => True) (c := cMap) (fun h k => slt_trans h k) (fun out x => by
    unfold cMap
    cases out.getLast? with
    | none => simp
    | some q => simp) xs []
  cases hc : chkN cMap [] xs with
  | true => symm; rw [decide_eq_true_eq]; exact (h.1 hc).2.1
  | false => symm; rw [decide_eq_false_iff_not]; intro g; rw [h.2 ⟨by simp, g, by simp⟩] at hc; cases hc
theorem cTab_eq (xs : List api_Last) : chkN cTab [] xs = decide ((∀ l ∈ xs, 1 ≤ l.Sess ∧ 1 ≤ l.Seq) ∧ xs.Pairwise (fun a b => a.Sess < b.Sess)) := by
  have h := chk_pair (R := fun a b : api_Last => a.Sess < b.Sess) (Q := fun l => 1 ≤ l.Sess ∧ 1 ≤ l.Seq) (c := cTab) (fun h k => by omega) (fun out x => by
    unfold cTab
    cases out.getLast? with
    | none => simp
    | some q => simp) xs []
  cases hc : chkN cTab [] xs with
  | true => symm; rw [decide_eq_true_eq]; exact ⟨(h.1 hc).1, (h.1 hc).2.1⟩
  | false => symm; rw [decide_eq_false_iff_not]; intro g; rw [h.2 ⟨g.1, g.2, by simp⟩] at hc; cases hc
theorem last_get {α : Type} {l : List α} (h : 0 < l.length) : l.getLast? = some (l[l.length - 1]) := by
  rw [List.getLast?_eq_getElem?, List.getElem?_eq_getElem]
theorem objects_eq {K : Nat} (hK : 150 ≤ K) {b : List UInt8} (hb : b.length ≤ 1000000000) (bad : Bool) :
    hocketref4_objects.f K b bad = some ((rdObj1 b bad).1, decide ((rdObj1 b bad).1.Lock.Nodup) && decide ((rdObj1 b bad).1.Map.Pairwise (fun a b => slt a.Key b.Key = true)), (rdObj1 b bad).2) := by
  have e5 : held2 5 = 5 := by decide
  unfold hocketref4_objects.f
  have s1 := (rbytes1_le 16 b bad).1
  rw [rbytes1_eq (by omega) (by omega)]
  simp only [Option.bind_some]
  obtain ⟨p1, hp1⟩ : ∃ p, rbytes1 16 b bad = p := ⟨_, rfl⟩
  rw [hp1] at s1 ⊢
  have s2 := rnum1_le 8 p1.2.1 p1.2.2
  obtain ⟨n2, g2, k2⟩ := rnum1_nat 8 p1.2.1 p1.2.2
  rw [rnum1_eq (by omega) (by omega)]
  simp only [Option.bind_some]
  obtain ⟨p2, hp2⟩ : ∃ p, rnum1 8 p1.2.1 p1.2.2 = p := ⟨_, rfl⟩
  rw [hp2] at s2 g2 ⊢
  rw [h8] at k2
  have l3 := read1_iter (rd := rbytes1 16) (c := fun _ _ => true) (f := fun again v => hocketref4_objects.B3 K (fun v => hocketref4_objects.J1 K p1 v.1 v.2.1 v.2.2) again v.1 v.2.1 v.2.2.1 v.2.2.2) (fun n _ b bad out => ((n : Int), b, bad, out)) (g := fun _ b bad out => hocketref4_objects.J1 K p1 b bad out) (k := n2) (lim := 1000000000) (shr_bytes1 16) (fun ag n ok b bad out ho hb => by
    simp only
    unfold hocketref4_objects.B3
    rw [if_pos (by omega), rbytes1_eq (by omega) (by omega)]
    simp only [Option.bind_some]
    rw [app_eq (by simp only [List.length_singleton]; omega)]
    simp only [Option.bind_some]
    rw [w64_predN (by omega)]) (fun ag ok b bad out hb ho => by
    simp only
    unfold hocketref4_objects.B3
    rw [if_neg (by omega)]) n2 K true p2.2.1 p2.2.2 [] (by simp) (by omega) (by omega)
  rw [g2]
  refine Eq.trans l3 ?_
  have s3 := (readN_len (shr_bytes1 16) n2 p2.2.1 p2.2.2).2
  obtain ⟨p3, hp3⟩ : ∃ p, readN (rbytes1 16) n2 p2.2.1 p2.2.2 = p := ⟨_, rfl⟩
  rw [hp3] at s3 ⊢
  rw [List.nil_append]
  unfold hocketref4_objects.J1
  have s4 := rnum1_le 5 p3.2.1 p3.2.2
  obtain ⟨n4, g4, k4⟩ := rnum1_nat 5 p3.2.1 p3.2.2
  rw [rnum1_eq (by omega) (by omega)]
  simp only [Option.bind_some]
  obtain ⟨p4, hp4⟩ : ∃ p, rnum1 5 p3.2.1 p3.2.2 = p := ⟨_, rfl⟩
  rw [hp4] at s4 g4 ⊢
  rw [e5] at k4
  have l2 := read1_iter (rd := rnum1 999) (c := cLock) (f := fun again v => hocketref4_objects.B2 K (fun v => hocketref4_objects.J2 K p1 p3.1 v.1 v.2.1 v.2.2.1 v.2.2.2) again v.1 v.2.1 v.2.2.1 v.2.2.2.1 v.2.2.2.2) (fun n ok b bad out => (ok, (n : Int), b, bad, out)) (g := fun ok b bad out => hocketref4_objects.J2 K p1 p3.1 ok b bad out) (k := n4) (lim := 1000000000) (shr_num1 999) (fun ag n ok b bad out ho hb => by
    simp only
    unfold hocketref4_objects.B2
    rw [if_pos (by omega), rnum1_eq (by omega) (by omega)]
    simp only [Option.bind_some]
    unfold hocketref4_objects.J5
    cases ok with
    | true =>
      rw [if_pos rfl, place_eq (by omega) (by omega)]
      simp only [Option.bind_some]
      rw [app_eq (by simp only [List.length_singleton]; omega)]
      simp only [Option.bind_some]
      rw [w64_predN (by omega)]
      have : decide (posn out (rnum1 999 b bad).1 < 0) = cLock out (rnum1 999 b bad).1 := by
        unfold cLock
        rcases posn_cases out (rnum1 999 b bad).1 with ⟨h1, h2⟩ | ⟨i, h1, _, _, h2, _⟩
        · rw [h1, decide_eq_true h2]; rfl
        · rw [h1, decide_eq_false (by omega), decide_eq_false (by simpa using h2)]
      rw [this]
      rfl
    | false =>
      rw [if_neg (by simp), app_eq (by simp only [List.length_singleton]; omega)]
      simp only [Option.bind_some]
      rw [w64_predN (by omega)]
      rfl) (fun ag ok b bad out hb ho => by
    simp only
    unfold hocketref4_objects.B2
    rw [if_neg (by omega)]) n4 K true p4.2.1 p4.2.2 [] (by simp) (by omega) (by omega)
  rw [g4]
  refine Eq.trans l2 ?_
  have s5 := (readN_len (shr_num1 999) n4 p4.2.1 p4.2.2).2
  obtain ⟨p5, hp5⟩ : ∃ p, readN (rnum1 999) n4 p4.2.1 p4.2.2 = p := ⟨_, rfl⟩
  rw [hp5] at s5 ⊢
  rw [List.nil_append, cLock_eq, Bool.true_and]
  unfold hocketref4_objects.J2
  have s6 := rnum1_le 8 p5.2.1 p5.2.2
  obtain ⟨n6, g6, k6⟩ := rnum1_nat 8 p5.2.1 p5.2.2
  rw [rnum1_eq (by omega) (by omega)]
  simp only [Option.bind_some]
  obtain ⟨p6, hp6⟩ : ∃ p, rnum1 8 p5.2.1 p5.2.2 = p := ⟨_, rfl⟩
  rw [hp6] at s6 g6 ⊢
  rw [h8] at k6
  have l1 := read1_iter (rd := rdPair1) (c := cMap) (f := fun again v => hocketref4_objects.B1 K (fun v => hocketref4_objects.J3 K p1 p3.1 p5.1 v.1 v.2.1 v.2.2.1 v.2.2.2) again v.1 v.2.1 v.2.2.1 v.2.2.2.1 v.2.2.2.2) (fun n ok b bad out => (ok, (n : Int), b, bad, out)) (g := fun ok b bad out => hocketref4_objects.J3 K p1 p3.1 p5.1 ok b bad out) (k := n6) (lim := 1000000000) shr_pair1 (fun ag n ok b bad out ho hb => by
    simp only
    unfold hocketref4_objects.B1
    have := (rbytes1_le 8 b bad).1
    rw [if_pos (by omega), rbytes1_eq (by omega) (by omega)]
    simp only [Option.bind_some]
    rw [rbytes1_eq (by omega) (by omega)]
    simp only [Option.bind_some]
    have fin : ∀ q : Bool, hocketref4_objects.J4 K out (rbytes1 8 b bad) (rbytes1 16 (rbytes1 8 b bad).2.1 (rbytes1 8 b bad).2.2) ag (((n + 1 : Nat) : Int)) q = ag (q, (n : Int), (rdPair1 b bad).2.1, (rdPair1 b bad).2.2, out ++ [(rdPair1 b bad).1]) := fun q => by
      unfold hocketref4_objects.J4
      rw [app_eq (by simp only [List.length_singleton]; omega)]
      simp only [Option.bind_some]
      rw [w64_predN (by omega)]
      rfl
    cases ok with
    | true =>
      rw [if_pos rfl]
      by_cases h0 : (out.length : Int) = 0
      · rw [if_pos h0, fin]
        obtain rfl := List.eq_nil_of_length_eq_zero (l := out) (by omega)
        rfl
      · rw [if_neg h0]
        have hw : w64 ((out.length : Int) - 1) = ((out.length - 1 : Nat) : Int) := by rw [w64_id (by omega)]; omega
        rw [hw, ix_get (by omega) (by rw [Int.toNat_natCast]; omega)]
        simp only [Option.bind_some, Int.toNat_natCast]
        rw [fin]
        have : cMap out (rdPair1 b bad).1 = slt (out[out.length - 1]'(by omega)).Key (rbytes1 8 b bad).1 := by
          unfold cMap
          rw [last_get (by omega)]
          rfl
        rw [this]
        rfl
    | false =>
      rw [if_neg (by simp), fin]
      rfl) (fun ag ok b bad out hb ho => by
    simp only
    unfold hocketref4_objects.B1
    rw [if_neg (by omega)]) n6 K (decide (p5.1.Nodup)) p6.2.1 p6.2.2 [] (by simp) (by omega) (by omega)
  rw [g6]
  refine Eq.trans l1 ?_
  rw [List.nil_append, cMap_eq]
  unfold hocketref4_objects.J3 rdObj1 rd2 mkObj rdRow
  dsimp only
  rw [hp1, hp2, g2, Int.toNat_natCast, hp3, hp4, g4, Int.toNat_natCast, hp5, hp6, g6, Int.toNat_natCast]
theorem getMachine_eq {K : Nat} (hK : 150 ≤ K) {b : List UInt8} (hb : b.length ≤ 1000000000) (bad : Bool) :
    hocketref4_GetMachine.f K b bad = some ((rdMa1 b bad).1, decide (RightM (rdMa1 b bad).1) && !(rdMa1 b bad).2.2, (rdMa1 b bad).2) := by
  unfold hocketref4_GetMachine.f
  have s1 := shr_obj1.le b bad
  rw [objects_eq hK hb]
  simp only [Option.bind_some]
  obtain ⟨p1, hp1⟩ : ∃ p, rdObj1 b bad = p := ⟨_, rfl⟩
  rw [hp1] at s1 ⊢
  have s2 := rnum1_le 8 p1.2.1 p1.2.2
  obtain ⟨n2, g2, k2⟩ := rnum1_nat 8 p1.2.1 p1.2.2
  rw [rnum1_eq (by omega) (by omega)]
  simp only [Option.bind_some]
  obtain ⟨p2, hp2⟩ : ∃ p, rnum1 8 p1.2.1 p1.2.2 = p := ⟨_, rfl⟩
  rw [hp2] at s2 g2 ⊢
  rw [h8] at k2
  obtain ⟨q1, hq1⟩ : ∃ q : api_Objects × Bool × List UInt8 × Bool, q = (p1.1, decide (p1.1.Lock.Nodup) && decide (p1.1.Map.Pairwise (fun a b => slt a.Key b.Key = true)), p1.2) := ⟨_, rfl⟩
  rw [← hq1]
  have hq2 : q1.1 = p1.1 := by rw [hq1]
  have l1 := read1_iter (rd := rdLast1) (c := cTab) (f := fun again v => hocketref4_GetMachine.B1 K (fun v => hocketref4_GetMachine.J1 K q1 v.1 v.2.1 v.2.2.1 v.2.2.2) again v.1 v.2.1 v.2.2.1 v.2.2.2.1 v.2.2.2.2) (fun n ok b bad out => (ok, (n : Int), b, bad, out)) (g := fun ok b bad out => hocketref4_GetMachine.J1 K q1 ok b bad out) (k := n2) (lim := 1000000000) shr_last1 (fun ag n ok b bad out ho hb => by
    simp only
    unfold hocketref4_GetMachine.B1
    rw [if_pos (by omega), show (1073741824 : Int) = gig from rfl]
    have t1 := rnum1_le gig b bad
    have u1 := rnum1_range gig b bad
    rw [rnum1_eq (by omega) (by omega)]
    simp only [Option.bind_some]
    obtain ⟨a1, ha1⟩ : ∃ p, rnum1 gig b bad = p := ⟨_, rfl⟩
    rw [ha1] at t1 u1 ⊢
    have t2 := rnum1_le gig a1.2.1 a1.2.2
    have u2 := rnum1_range gig a1.2.1 a1.2.2
    rw [rnum1_eq (by omega) (by omega)]
    simp only [Option.bind_some]
    obtain ⟨a2, ha2⟩ : ∃ p, rnum1 gig a1.2.1 a1.2.2 = p := ⟨_, rfl⟩
    rw [ha2] at t2 u2 ⊢
    have t3 := rnum1_le 10 a2.2.1 a2.2.2
    rw [rnum1_eq (by omega) (by omega)]
    simp only [Option.bind_some]
    obtain ⟨a3, ha3⟩ : ∃ p, rnum1 10 a2.2.1 a2.2.2 = p := ⟨_, rfl⟩
    rw [ha3] at t3 ⊢
    have t4 := rnum1_le 1073741825 a3.2.1 a3.2.2
    rw [rnum1_eq (by omega) (by omega)]
    simp only [Option.bind_some]
    obtain ⟨a4, ha4⟩ : ∃ p, rnum1 1073741825 a3.2.1 a3.2.2 = p := ⟨_, rfl⟩
    rw [ha4] at t4 ⊢
    rw [rbytes1_eq (by omega) (by omega)]
    simp only [Option.bind_some]
    obtain ⟨a5, ha5⟩ : ∃ p, rbytes1 16 a4.2.1 a4.2.2 = p := ⟨_, rfl⟩
    rw [ha5]
    have hl : rdLast1 b bad = (⟨a1.1, a2.1, ⟨a3.1, a5.1, w64 (a4.1 - 1)⟩⟩, a5.2) := by
      unfold rdLast1 rd2 mkLast
      dsimp only
      rw [ha1, ha2, ha3, ha4, ha5]
    have hgig : held2 gig = 1073741824 := by decide
    rw [hgig] at u1 u2
    have fin : ∀ q : Bool, hocketref4_GetMachine.J2 K out a1 a2 a3 a5 a4 ag (((n + 1 : Nat) : Int)) q = ag (q, (n : Int), (rdLast1 b bad).2.1, (rdLast1 b bad).2.2, out ++ [(rdLast1 b bad).1]) := fun q => by
      unfold hocketref4_GetMachine.J2
      rw [app_eq (by simp only [List.length_singleton]; omega)]
      simp only [Option.bind_some]
      rw [w64_predN (by omega), hl]
    cases ok with
    | true =>
      have hn : hocketref4_named.f a1.1 a2.1 = some (decide (1 ≤ a1.1 ∧ 1 ≤ a2.1)) := by
        unfold hocketref4_named.f
        have d1 : a1.1 ≤ 1073741824 := by omega
        have d2 : a2.1 ≤ 1073741824 := by omega
        by_cases c1 : 1 ≤ a1.1 <;> by_cases c2 : 1 ≤ a2.1 <;> simp [c1, c2, d1, d2]
      rw [if_pos rfl, hn]
      simp only [Option.bind_some]
      by_cases c1 : 1 ≤ a1.1 ∧ 1 ≤ a2.1
      · rw [if_pos (by rw [decide_eq_true_eq]; exact c1)]
        by_cases h0 : (out.length : Int) = 0
        · rw [if_pos h0, fin]
          obtain rfl := List.eq_nil_of_length_eq_zero (l := out) (by omega)
          have : cTab [] (rdLast1 b bad).1 = true := by
            rw [hl]; unfold cTab; simp only [List.getLast?_nil, Bool.and_true, decide_eq_true_eq]; exact c1
          rw [this]
          rfl
        · rw [if_neg h0]
          have hw : w64 ((out.length : Int) - 1) = ((out.length - 1 : Nat) : Int) := by rw [w64_id (by omega)]; omega
          rw [hw, ix_get (by omega) (by rw [Int.toNat_natCast]; omega)]
          simp only [Option.bind_some, Int.toNat_natCast]
          rw [fin]
          have : cTab out (rdLast1 b bad).1 = decide ((out[out.length - 1]'(by omega)).Sess < a1.1) := by
            rw [hl]
            unfold cTab
            rw [last_get (by omega)]
            dsimp only
            rw [decide_eq_true c1, Bool.true_and]
          rw [this]
          rfl
      · rw [if_neg (by rw [decide_eq_true_eq]; exact c1), fin]
        have : cTab out (rdLast1 b bad).1 = false := by
          rw [hl]; unfold cTab; dsimp only; rw [decide_eq_false c1, Bool.false_and]
        rw [this]
        rfl
    | false =>
      rw [if_neg (by simp), fin]
      rfl) (fun ag ok b bad out hb ho => by
    simp only
    unfold hocketref4_GetMachine.B1
    rw [if_neg (by omega)]) n2 K q1.2.1 p2.2.1 p2.2.2 [] (by simp) (by omega) (by omega)
  rw [g2, show (decide (p1.1.Lock.Nodup) && decide (p1.1.Map.Pairwise (fun a b => slt a.Key b.Key = true))) = q1.2.1 by rw [hq1]]
  refine Eq.trans l1 ?_
  rw [List.nil_append, cTab_eq]
  have hma : rdMa1 b bad = (⟨p1.1, (readN rdLast1 n2 p2.2.1 p2.2.2).1⟩, (readN rdLast1 n2 p2.2.1 p2.2.2).2) := by
    unfold rdMa1 rd2 rdRow
    dsimp only
    rw [hp1, hp2, g2, Int.toNat_natCast]
  rw [hma]
  obtain ⟨p3, hp3⟩ : ∃ p, readN rdLast1 n2 p2.2.1 p2.2.2 = p := ⟨_, rfl⟩
  rw [hp3, hq2.symm] at *
  dsimp only
  have hok : q1.2.1 = (decide (q1.1.Lock.Nodup) && decide (q1.1.Map.Pairwise (fun a b => slt a.Key b.Key = true))) := by rw [hq2, hq1]
  unfold hocketref4_GetMachine.J1
  have hR : (q1.2.1 && decide ((∀ l ∈ p3.1, 1 ≤ l.Sess ∧ 1 ≤ l.Seq) ∧ p3.1.Pairwise (fun a b => a.Sess < b.Sess))) = decide (RightM ⟨q1.1, p3.1⟩) := by
    rw [hok]
    unfold RightM
    dsimp only
    by_cases c1 : q1.1.Lock.Nodup <;> by_cases c2 : q1.1.Map.Pairwise (fun a b => slt a.Key b.Key = true) <;> by_cases c3 : (∀ l ∈ p3.1, 1 ≤ l.Sess ∧ 1 ≤ l.Seq) <;> by_cases c4 : p3.1.Pairwise (fun a b => a.Sess < b.Sess) <;> simp only [c1, c2, c3, c4, decide_true, decide_false, Bool.and_true, Bool.and_false, Bool.true_and, Bool.false_and, and_true, and_false, true_and, false_and]
  rw [hR]
  cases hd : decide (RightM ⟨q1.1, p3.1⟩) with
  | true => rw [if_pos rfl]; rfl
  | false => rw [if_neg (by simp)]; rfl
theorem machDecode1_eq {K : Nat} (hK : 150 ≤ K) {b : List UInt8} (hb : b.length ≤ 1000000000) : hocketref4_Decode.f K b = some (decMa b) := by
  unfold hocketref4_Decode.f decMa
  rw [getMachine_eq hK hb]
  simp only [Option.bind_some]
  obtain ⟨e1, e2, e3⟩ := rr_ma b false b false ⟨rfl, by simp⟩
  rw [e1, e2]
  generalize rdMa1 b false = p at *
  generalize rdMa b false = q at *
  obtain ⟨m, r, bad⟩ := p
  obtain ⟨m', r', bad'⟩ := q
  dsimp only at *
  subst e2
  unfold hocketref1_Reader_End.f hocketref4_Decode.J1
  cases bad' with
  | true => simp [zmach]
  | false =>
    have e3 : r' = r := by simpa using e3
    subst e3
    by_cases hr : RightM m
    · by_cases h0 : r' = []
      · subst h0; simp [hr]
      · have : ((r'.length : Int) == 0) = false := by
          have : r'.length ≠ 0 := fun g => h0 (List.eq_nil_of_length_eq_zero g)
          simp only [beq_eq_false_iff_ne]; omega
        simp [hr, h0, zmach]
    · simp [hr, zmach]
end Go.Gp
