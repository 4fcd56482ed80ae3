/- What the statements say, of the plain functions. -/
import Derived.Test.YtploijfgnnkddaaDefs
import Derived.Test.YtploijfgnnkddaaLe
import Derived.Test.YtploijfgnnkddaaThInts
import Derived.Test.YtploijfgnnkddaaThPack
import Derived.Test.YtploijfgnnkddaaThMesg
import Derived.Test.YtploijfgnnkddaaThMesg2
import Derived.Test.YtploijfgnnkddaaThMesg3
import Derived.Test.YtploijfgnnkddaaThMesg4
import Derived.Test.YtploijfgnnkddaaThMesg5
import Derived.Test.YtploijfgnnkddaaThMesg6
import Derived.Test.YtploijfgnnkddaaThMsg
import Derived.Test.YtploijfgnnkddaaThMesg7
import Derived.Test.YtploijfgnnkddaaThMesg8
import Derived.Test.YtploijfgnnkddaaThMesgS
import Derived.Test.YtploijfgnnkddaaGpCrc
import Derived.Test.YtploijfgnnkddaaThCrc
import Derived.Test.YtploijfgnnkddaaThFram
import Derived.Test.YtploijfgnnkddaaThPack1
import Derived.Test.YtploijfgnnkddaaThMesg9
import Derived.Test.YtploijfgnnkddaaThMesg10
import Derived.Test.YtploijfgnnkddaaThRows
import Derived.Test.YtploijfgnnkddaaThMach
import Derived.Test.YtploijfgnnkddaaThMach2
import Derived.Test.YtploijfgnnkddaaThMach3
import Derived.Test.YtploijfgnnkddaaThMach4
import Derived.Test.YtploijfgnnkddaaThBlob
/- States in bytes: the document's Decode, states held against each other, parts. -/
namespace Go.Gp
open Go
theorem rr_any (B : List UInt8) (Bad : Bool) : RR (if Bad = true then [] else B) Bad B Bad := by
  cases Bad <;> exact ⟨rfl, by simp⟩
theorem rest1_eq {K : Nat} (hK : K = 2000000) {R : api_State × Bool → Prop} {b B : List UInt8} {bad Bad : Bool} (h : RR b bad B Bad) (hB : B.length ≤ 10000000) (ex : hocketref1_Reader × List api_Entry → Option (api_State × Bool))
    (k : ∀ C Cb, RR (rdRest b bad).2.1 (rdRest b bad).2.2 C Cb → Sat (ex (⟨C, Cb⟩, (rdRest b bad).1)) R) :
    Sat (hocketref15_Decode.L1 K ex K ((rnum1 64 B Bad).1, ⟨(rnum1 64 B Bad).2.1, (rnum1 64 B Bad).2.2⟩, [])) R := by
  have get : ∀ {b B : List UInt8} {bad Bad : Bool} (h : RR b bad B Bad) (hB : B.length ≤ 10000000), Sat (hocketref4_GetEntry.f K B Bad) (fun r => r.1 = (getE b bad).1 ∧ RR (getE b bad).2.1 (getE b bad).2.2 r.2.1 r.2.2 ∧ r.2.1.length ≤ B.length) := fun {b B bad Bad} h hB => by
    have h1 := hK ▸ getE1_eq h hB
    have h2 : Sat (hocketref4_GetEntry.f K B Bad) (fun r => r.2.1.length ≤ B.length) := by
      unfold hocketref4_GetEntry.f
      have hK2 : 1000 ≤ K := by rw [hK]; decide
      refine sat_b (rnum1_eq (by omega) (by omega) _ _) ?_
      have s1 := rnum1_le 1073741824 B Bad
      generalize rnum1 1073741824 B Bad = p1 at *
      refine sat_b (rnum1_eq (by omega) (by omega) _ _) ?_
      have s2 := rnum1_le 1073741824 p1.2.1 p1.2.2
      generalize rnum1 1073741824 p1.2.1 p1.2.2 = p2 at *
      refine sat_b (rnum1_eq (by omega) (by omega) _ _) ?_
      have s3 := rnum1_le 1073741824 p2.2.1 p2.2.2
      generalize rnum1 1073741824 p2.2.1 p2.2.2 = p3 at *
      refine sat_b (rnum1_eq (by omega) (by omega) _ _) ?_
      have s4 := rnum1_le 1073741824 p3.2.1 p3.2.2
      generalize rnum1 1073741824 p3.2.1 p3.2.2 = p4 at *
      refine sat_b (rbytes1_eq (by omega) (by omega) _ _) ?_
      have s5 := rbytes1_le 32 p4.2.1 p4.2.2
      generalize rbytes1 32 p4.2.1 p4.2.2 = p5 at *
      refine sat_b (rbytes1_eq (by omega) (by omega) _ _) ?_
      have s6 := rbytes1_le 32 p5.2.1 p5.2.2
      generalize rbytes1 32 p5.2.1 p5.2.2 = p6 at *
      refine sat_b (rbytes1_eq (by omega) (by omega) _ _) ?_
      have s7 := rbytes1_le 32 p6.2.1 p6.2.2
      generalize rbytes1 32 p6.2.1 p6.2.2 = p7 at *
      exact sat_if (fun _ => sat_r (by simp only; omega)) (fun _ => sat_r (by simp only; omega))
    exact sat_mono (sat_and h1 h2) (fun v ⟨⟨a, b⟩, c⟩ => ⟨a, b, c⟩)
  have hK2 : 1000 ≤ K := by rw [hK]; decide
  clear hK
  have e64 : held2 64 = 64 := by decide
  obtain ⟨e1, h1⟩ := h.num 64
  have hr := rnum_range 64 b bad
  have hs := rnum1_le 64 B Bad
  rw [e64] at hr
  unfold rdRest rdRow at k
  rw [← e1]
  generalize rnum 64 b bad = p at *
  generalize rnum1 64 B Bad = q at *
  obtain ⟨n, b1, bad1⟩ := p
  obtain ⟨n', B1, Bad1⟩ := q
  simp only at hr hs h1 k ⊢
  obtain ⟨k', rfl⟩ : ∃ k : Nat, n = k := ⟨n.toNat, by omega⟩
  rw [Int.toNat_natCast] at k
  refine sat_loop (fun v : Int × hocketref1_Reader × List api_Entry => v.1.toNat) (fun v => ∃ i : Nat, v.1 = i ∧ i ≤ k' ∧ v.2.2.length + i = k' ∧ v.2.1.B.length ≤ B.length ∧ ∃ (c : List UInt8) (cb : Bool), RR c cb v.2.1.B v.2.1.Bad ∧ (v.2.2 ++ (readN getE i c cb).1, (readN getE i c cb).2) = readN getE k' b1 bad1) ?_ K _ ⟨k', rfl, by omega, by simp, hs, b1, bad1, h1, by simp⟩ (by simp only; omega)
  rintro ⟨j, ⟨C, Cb⟩, out⟩ ⟨i, g1, g2, g3, g4, c, cb, g5, g6⟩ ag hag
  simp only at g1 g3 g4 g5 g6
  subst g1
  show Sat (hocketref15_Decode.B1 K ex ag i ⟨C, Cb⟩ out) _
  unfold hocketref15_Decode.B1
  refine sat_if (fun hlt => ?_) (fun hge => ?_)
  · obtain ⟨i, rfl⟩ : ∃ i', i = i' + 1 := ⟨i - 1, by omega⟩
    refine sat_bs (get (B := C) g5 (by omega)) (fun r ⟨f1, f2, f3⟩ => ?_)
    refine sat_b (app_eq (by simp only [List.length_singleton]; omega)) ?_
    rw [w64_predN (by omega)]
    refine hag _ ⟨i, rfl, by omega, by simp; omega, by simp only; omega, _, _, f2, ?_⟩ (by simp only; omega)
    simp only
    rw [← g6, readN_succ, f1]
    simp
  · have : i = 0 := by omega
    subst this
    simp only [readN, List.append_nil] at g6
    have h1 : (readN getE k' b1 bad1).1 = out := by rw [← g6]
    have h2 : (readN getE k' b1 bad1).2 = (c, cb) := by rw [← g6]
    rw [h1, h2] at k
    exact k C Cb g5
theorem rd_top {t u : Int} {b r : List UInt8} {n : Nat} (h : rd t b = some (n, r)) (hn : n ≤ held2 u) : rd u b = some (n, r) := by
  obtain ⟨_, rfl⟩ := rd_some h
  exact rd_enc hn
theorem rdB_top {t u : Int} {b r x : List UInt8} (h : rdB t b = some (x, r)) (hn : x.length ≤ held2 u) : rdB u b = some (x, r) := by
  obtain ⟨_, rfl⟩ := rdB_some h
  exact rdB_enc hn
theorem decMa_big {b : List UInt8} (h : 500000 < b.length) : (decMa b).2 = false := by
  cases hd : (decMa b).2 with
  | false => rfl
  | true =>
    obtain ⟨h1, _, h2⟩ := decMa_ok hd
    have := machW_len (okRd_small h1)
    rw [← h2] at this
    omega
theorem rdRest_bad (b : List UInt8) : (rdRest b true).2.2 = true := by
  unfold rdRest rdRow
  have h1 : ∀ (top : Int) (c : List UInt8), (rnum top c true).2.2 = true := fun top c => by unfold rnum; cases rd top c <;> rfl
  have h2 : ∀ (top : Int) (c : List UInt8), (rbytes top c true).2.2 = true := fun top c => by unfold rbytes; cases rdB top c <;> rfl
  have h3 : ∀ c : List UInt8, (getE c true).2.2 = true := fun c => by
    unfold getE
    dsimp only
    simp only [h1, h2]
  have h4 : ∀ (k : Nat) (c : List UInt8), (readN getE k c true).2.2 = true := fun k => by
    induction k with
    | zero => intro c; rfl
    | succ k ih => intro c; rw [readN_succ, h3]; exact ih _
  rw [h1]
  exact h4 _ _
/-- What the document's Decode tells of what it read. -/
theorem ref_fin {K : Nat} {ok : Bool} {x : List UInt8} {m : api_Machine × Bool} {a : Int × List UInt8 × Bool} {q : List api_Entry × List UInt8 × Bool} {C : List UInt8} {Cb : Bool} (hq : RR q.2.1 q.2.2 C Cb) (hl : q.1.length ≤ 64) :
    hocketref15_Decode.J1 K (x, ok) m a ⟨C, Cb⟩ q.1 = some (if ok = true then finS a.1 m q else (zstate, false)) := by
  have hbv : big = 549755813888 := rfl
  have fin : ∀ z : Bool, hocketref15_Decode.J2 K a m q.1 z = some (if z = true then (zstate, false) else (⟨a.1, m.1, q.1⟩, true)) := fun z => by
    unfold hocketref15_Decode.J2; cases z <;> rfl
  unfold hocketref15_Decode.J1 hocketref1_Reader_End.f
  dsimp only
  cases ok with
  | false => rw [if_neg (by simp), fin]; rfl
  | true =>
    rw [if_pos rfl, if_pos rfl]
    cases hm : m.2 with
    | false =>
      have : finS a.1 m q = (zstate, false) := if_neg (by simp [hm])
      rw [if_neg (by simp), fin, this]; rfl
    | true =>
      rw [if_pos rfl]
      obtain ⟨hq1, hq2⟩ := hq
      cases hc : Cb with
      | true =>
        have : finS a.1 m q = (zstate, false) := if_neg (by rw [hq1, hc]; simp)
        rw [this]
        simp [fin]
      | false =>
        rw [hq1, hc] at hq2
        have hq2 : q.2.1 = C := by simpa using hq2
        by_cases h0 : C = []
        · have h0' : q.2.1 = [] := by rw [hq2, h0]
          subst h0
          rw [w64_id (by omega), ← hbv]
          by_cases hat : a.1 > big - (q.1.length : Int)
          · have : finS a.1 m q = (zstate, false) := if_neg (by omega)
            rw [this, decide_eq_true hat]
            simp [fin]
          · have : finS a.1 m q = (⟨a.1, m.1, q.1⟩, true) := if_pos ⟨hm, by rw [hq1, hc], h0', by omega⟩
            rw [this, decide_eq_false hat]
            simp [fin]
        · have e : ((C.length : Int) == 0) = false := by
            have : C.length ≠ 0 := fun g => h0 (List.eq_nil_of_length_eq_zero g)
            simp only [beq_eq_false_iff_ne]; omega
          have : finS a.1 m q = (zstate, false) := if_neg (fun g => h0 (by rw [← hq2]; exact g.2.2.1))
          rw [this, e]
          simp [fin]
theorem finS_bad {a : Int} {m : api_Machine × Bool} {q : List api_Entry × List UInt8 × Bool} (h : m.2 = false ∨ q.2.2 = true ∨ big < a) : finS a m q = (zstate, false) := if_neg (fun ⟨g1, g2, g3, g4⟩ => by
  rcases h with h | h | h
  · rw [g1] at h; cases h
  · rw [g2] at h; cases h
  · omega)
theorem blobDecode1_eq {K : Nat} (hK : K = 2000000) {b : List UInt8} (hb : b.length < K) (hb2 : b.length ≤ 10000000) : hocketref15_Decode.f K b = some (decS b) := by
  suffices hS : Sat (hocketref15_Decode.f K b) (fun r => r = decS b) by
    obtain ⟨r, h1, h2⟩ := hS; rw [h1, h2]
  have hK2 : 1000 ≤ K := by rw [hK]; decide
  have _hb3 := hb2
  unfold hocketref15_Decode.f
  obtain ⟨x, ok, hx, hxl, hxs⟩ : ∃ (x : List UInt8) (ok : Bool), hocketref1_Unfour.f K b = some (x, ok) ∧ x.length ≤ 10000000 ∧ decS b = if ok = true then decX x else (zstate, false) := by
    rw [unfour_eq (by omega) hb (by omega)]
    cases hu : unsealB b with
    | none => exact ⟨[], false, rfl, by simp, by rw [decS_none hu]; rfl⟩
    | some y =>
      have := sealB_len y
      rw [← unsealB_some hu] at this
      exact ⟨y, true, rfl, by omega, by unfold decS; rw [hu]; rfl⟩
  refine sat_b hx ?_
  rw [hxs]
  dsimp only
  have s1 := rnum1_le 1099511627776 x false
  refine sat_b (rnum1_eq (by omega) (by omega) _ _) ?_
  obtain ⟨A, hA⟩ : ∃ A, rnum1 1099511627776 x false = A := ⟨_, rfl⟩
  rw [hA] at s1 ⊢
  have s2 := rbytes1_le 1073741824 A.2.1 A.2.2
  refine sat_b (rbytes1_eq (by omega) (by omega) _ _) ?_
  obtain ⟨P, hP⟩ : ∃ P, rbytes1 1073741824 A.2.1 A.2.2 = P := ⟨_, rfl⟩
  rw [hP] at s2 ⊢
  refine sat_b (machDecode1_eq (by omega) (by omega)) (sat_b (rnum1_eq (by omega) (by omega) _ _) ?_)
  -- whatever comes of the rest, side by side with what blob reads
  have go : ∀ (c : List UInt8) (cb : Bool), RR c cb P.2.1 P.2.2 → (ok = true → finS A.1 (decMa P.1) (rdRest c cb) = decX x) → Sat (hocketref15_Decode.L1 K (fun v => hocketref15_Decode.J1 K (x, ok) (decMa P.1) A v.1 v.2) K ((rnum1 64 P.2.1 P.2.2).1, ⟨(rnum1 64 P.2.1 P.2.2).2.1, (rnum1 64 P.2.1 P.2.2).2.2⟩, [])) (fun r => r = if ok = true then decX x else (zstate, false)) := fun c cb hc he => by
    refine rest1_eq hK hc (by omega) _ (fun C Cb hC => ?_)
    show Sat (hocketref15_Decode.J1 K (x, ok) (decMa P.1) A ⟨C, Cb⟩ (rdRest c cb).1) _
    have hf := ref_fin (K := K) (ok := ok) (x := x) (m := decMa P.1) (a := A) (q := rdRest c cb) (C := C) (Cb := Cb) hC (rdRest_len c cb)
    rw [hf]
    refine sat_r ?_
    cases ok with
    | true => rw [if_pos rfl, if_pos rfl]; exact he rfl
    | false => rw [if_neg (by simp), if_neg (by simp)]
  have hbv : big = 549755813888 := rfl
  have e1 : held2 big = 549755813888 := by decide
  have e2 : held2 1099511627776 = 1099511627776 := by decide
  have e3 : held2 1048576 = 1048576 := by decide
  have e4 : held2 1073741824 = 1073741824 := by decide
  have f0 : ∀ c : List UInt8, rbytes 1048576 c true = ((rbytes 1048576 c true).1, (rbytes 1048576 c true).2.1, true) := fun c => by unfold rbytes; cases rdB 1048576 c <;> rfl
  cases hn : rd big x with
  | some p =>
    obtain ⟨n, r⟩ := p
    obtain ⟨g1, _⟩ := rd_some hn
    have hA2 : A = ((n : Int), r, false) := by
      rw [← hA]; unfold rnum1; rw [rd_top hn (by omega)]; rfl
    have hX : rnum big x false = ((n : Int), r, false) := by unfold rnum; rw [hn]
    cases hm : rdB 1048576 r with
    | some p =>
      obtain ⟨y, r2⟩ := p
      obtain ⟨g2, _⟩ := rdB_some hm
      have hP2 : P = (y, r2, false) := by
        rw [← hP, hA2]; unfold rbytes1; rw [rdB_top hm (by omega)]; rfl
      refine go r2 false (by rw [hP2]; exact ⟨rfl, by simp⟩) (fun _ => ?_)
      have hY : rbytes 1048576 r false = (y, r2, false) := by unfold rbytes; rw [hm]
      unfold decX
      rw [hX]
      dsimp only
      rw [hY, hP2, hA2]
    | none =>
      have hY : rbytes 1048576 r false = ([], [], true) := by unfold rbytes; rw [hm]
      have hD : decX x = (zstate, false) := by
        unfold decX
        rw [hX]
        dsimp only
        rw [hY]
        exact finS_bad (.inr (.inl (rdRest_bad _)))
      refine go (if P.2.2 = true then [] else P.2.1) P.2.2 (rr_any _ _) (fun _ => ?_)
      rw [hD]
      cases hb3 : rdB 1073741824 r with
      | none =>
        have hP2 : P = ([], r, true) := by rw [← hP, hA2]; unfold rbytes1; rw [hb3]; rfl
        rw [hP2]
        exact finS_bad (.inr (.inl (rdRest_bad _)))
      | some p =>
        obtain ⟨y, r2⟩ := p
        have hP2 : P = (y, r2, false) := by rw [← hP, hA2]; unfold rbytes1; rw [hb3]; rfl
        rw [hP2]
        refine finS_bad (.inl (decMa_big ?_))
        by_cases hy : y.length ≤ 1048576
        · rw [rdB_top hb3 (by omega)] at hm; cases hm
        · show 500000 < y.length
          omega
  | none =>
    have hX : rnum big x false = (0, [], true) := by unfold rnum; rw [hn]
    have hD : decX x = (zstate, false) := by
      unfold decX
      rw [hX]
      dsimp only
      rw [f0]
      exact finS_bad (.inr (.inl (rdRest_bad _)))
    refine go (if P.2.2 = true then [] else P.2.1) P.2.2 (rr_any _ _) (fun _ => ?_)
    rw [hD]
    cases hb3 : rd 1099511627776 x with
    | none =>
      have hA2 : A = (0, x, true) := by rw [← hA]; unfold rnum1; rw [hb3]; rfl
      have hP2 : P.2.2 = true := by rw [← hP, hA2]; rfl
      rw [hP2]
      exact finS_bad (.inr (.inl (rdRest_bad _)))
    | some p =>
      obtain ⟨n, r⟩ := p
      have hA2 : A = ((n : Int), r, false) := by rw [← hA]; unfold rnum1; rw [hb3]; rfl
      refine finS_bad (.inr (.inr ?_))
      rw [hA2]
      by_cases hy : n ≤ 549755813888
      · rw [rd_top hb3 (by omega)] at hn; cases hn
      · show big < (n : Int)
        omega
/-! ### held against each other -/
theorem rows_same {K : Nat} {xs ys : List (List UInt8)} (hK : xs.length < K) (hx : xs.length ≤ 1000000000) : hocketref4_SameRows.f K xs ys = some (decide (xs = ys)) := by
  unfold hocketref4_SameRows.f
  by_cases hl : xs.length = ys.length
  · rw [if_pos (by omega)]
    have := eq_iter (R := fun a b : List UInt8 => decide (a = b)) hl (f := fun again v => hocketref4_SameRows.B1 K xs ys (fun v => hocketref4_SameRows.J1 K) again v) (fun ag i h h' => by
      unfold hocketref4_SameRows.B1
      rw [if_pos (by omega), ix_get (by omega) (by simpa using h)]
      simp only [Option.bind_some]
      rw [ix_get (by omega) (by simpa using h')]
      simp only [Option.bind_some, Int.toNat_natCast, decide_eq_true_eq]
      rw [w64_succN (by omega)]) (fun ag => by
      unfold hocketref4_SameRows.B1
      rw [if_neg (by omega)]
      rfl) xs.length 0 K (by omega) hK
    rw [List.drop_zero, List.drop_zero, zip_all_eq hl] at this
    exact this
  · rw [if_neg (by omega)]
    congr 1
    symm
    exact decide_eq_false (fun h => hl (by rw [h]))
theorem pairs_same {K : Nat} {xs ys : List api_Pair} (hK : xs.length < K) (hx : xs.length ≤ 1000000000) : hocketref4_SamePairs.f K xs ys = some (decide (xs = ys)) := by
  unfold hocketref4_SamePairs.f
  by_cases hl : xs.length = ys.length
  · rw [if_pos (by omega)]
    have := eq_iter (R := fun a b : api_Pair => decide (a = b)) hl (f := fun again v => hocketref4_SamePairs.B1 K xs ys (fun v => hocketref4_SamePairs.J1 K) again v) (fun ag i h h' => by
      unfold hocketref4_SamePairs.B1 hocketref4_SamePairs.J2
      rw [if_pos (by omega), ix_get (by omega) (by simpa using h)]
      simp only [Option.bind_some]
      rw [ix_get (by omega) (by simpa using h')]
      simp only [Option.bind_some, Int.toNat_natCast, decide_eq_true_eq]
      rw [w64_succN (by omega)]
      have key : ∀ (a b : api_Pair) (z : Option Bool), (if a.Key = b.Key then if (!a.Val == b.Val) = true then some false else z else if True then some false else z) = if a = b then z else some false := fun a b z => by
        obtain ⟨k, v⟩ := a
        obtain ⟨k', v'⟩ := b
        simp only [api_Pair.mk.injEq]
        by_cases h1 : k = k' <;> by_cases h2 : v = v' <;> simp [h1, h2]
      exact key _ _ _) (fun ag => by
      unfold hocketref4_SamePairs.B1
      rw [if_neg (by omega)]
      rfl) xs.length 0 K (by omega) hK
    rw [List.drop_zero, List.drop_zero, zip_all_eq hl] at this
    exact this
  · rw [if_neg (by omega)]
    congr 1
    symm
    exact decide_eq_false (fun h => hl (by rw [h]))
theorem result_same (a b : api_Result) : hocketref4_SameResult.f a b = some (decide (a = b)) := by
  obtain ⟨e, v, n⟩ := a
  obtain ⟨e', v', n'⟩ := b
  unfold hocketref4_SameResult.f
  simp only [api_Result.mk.injEq]
  by_cases h1 : e = e' <;> by_cases h2 : v = v' <;> by_cases h3 : n = n' <;> simp [h1, h2, h3]
theorem table_same {K : Nat} {xs ys : List api_Last} (hK : xs.length < K) (hx : xs.length ≤ 1000000000) : hocketref4_SameTable.f K xs ys = some (decide (xs = ys)) := by
  unfold hocketref4_SameTable.f
  by_cases hl : xs.length = ys.length
  · rw [if_pos (by omega)]
    have := eq_iter (R := fun a b : api_Last => decide (a = b)) hl (f := fun again v => hocketref4_SameTable.B1 K xs ys (fun v => hocketref4_SameTable.J1 K) again v) (fun ag i h h' => by
      unfold hocketref4_SameTable.B1 hocketref4_SameTable.J2
      rw [if_pos (by omega), ix_get (by omega) (by simpa using h)]
      simp only [Option.bind_some]
      rw [ix_get (by omega) (by simpa using h')]
      simp only [Option.bind_some, Int.toNat_natCast, decide_eq_true_eq, result_same]
      rw [w64_succN (by omega)]
      obtain ⟨s, q, r⟩ := xs[i]
      obtain ⟨s', q', r'⟩ := ys[i]
      simp only [api_Last.mk.injEq]
      by_cases h1 : s = s' <;> by_cases h2 : q = q' <;> by_cases h3 : r = r' <;> simp [h1, h2, h3]) (fun ag => by
      unfold hocketref4_SameTable.B1
      rw [if_neg (by omega)]
      rfl) xs.length 0 K (by omega) hK
    rw [List.drop_zero, List.drop_zero, zip_all_eq hl] at this
    exact this
  · rw [if_neg (by omega)]
    congr 1
    symm
    exact decide_eq_false (fun h => hl (by rw [h]))
theorem entries_same {K : Nat} {xs ys : List api_Entry} (hK : xs.length < K) (hx : xs.length ≤ 1000000000) : hocketref4_SameEntries.f K xs ys = some (decide (xs = ys)) := by
  unfold hocketref4_SameEntries.f
  by_cases hl : xs.length = ys.length
  · rw [if_pos (by omega)]
    have := eq_iter (R := fun a b : api_Entry => decide (a = b)) hl (f := fun again v => hocketref4_SameEntries.B1 K xs ys (fun v => hocketref4_SameEntries.J1 K) again v) (fun ag i h h' => by
      unfold hocketref4_SameEntries.B1
      rw [if_pos (by omega), ix_get (by omega) (by simpa using h)]
      simp only [Option.bind_some]
      rw [ix_get (by omega) (by simpa using h')]
      simp only [Option.bind_some, Int.toNat_natCast, entry1_same]
      rw [w64_succN (by omega)]) (fun ag => by
      unfold hocketref4_SameEntries.B1
      rw [if_neg (by omega)]
      rfl) xs.length 0 K (by omega) hK
    rw [List.drop_zero, List.drop_zero, zip_all_eq hl] at this
    exact this
  · rw [if_neg (by omega)]
    congr 1
    symm
    exact decide_eq_false (fun h => hl (by rw [h]))
theorem mach_same {K : Nat} (hK : 200 ≤ K) {a : api_Machine} (h : SmallM a) (b : api_Machine) : hocketref4_Same.f K a b = some (decide (a = b)) := by
  have h1 := h.q.1
  have h2 := h.l
  have h3 := h.p.1
  have h4 := h.t.1
  obtain ⟨⟨r, q, l, p⟩, t⟩ := a
  obtain ⟨⟨r', q', l', p'⟩, t'⟩ := b
  dsimp only at h1 h2 h3 h4
  unfold hocketref4_Same.f hocketref4_SameObjects.f
  dsimp only
  rw [rows_same (by omega) (by omega), same_ints (by omega) (by omega), pairs_same (by omega) (by omega), table_same (by omega) (by omega)]
  simp only [api_Machine.mk.injEq, api_Objects.mk.injEq, Option.bind_some]
  by_cases g1 : r = r' <;> by_cases g2 : q = q' <;> by_cases g3 : l = l' <;> by_cases g4 : p = p' <;> by_cases g5 : t = t' <;> simp [g1, g2, g3, g4, g5]
theorem state_same {K : Nat} (hK : 200 ≤ K) {a : api_State} (h : SmallS a) (b : api_State) : hocketref15_Same.f K a b = some (decide (a = b)) := by
  have h1 := h.r
  unfold hocketref15_Same.f
  rw [mach_same hK h.m, entries_same (by omega) (by omega)]
  obtain ⟨a1, a2, a3⟩ := a
  obtain ⟨b1, b2, b3⟩ := b
  simp only [api_State.mk.injEq, Option.bind_some]
  by_cases g1 : a1 = b1 <;> by_cases g2 : a2 = b2 <;> by_cases g3 : a3 = b3 <;> simp [g1, g2, g3]
theorem zstate_small : SmallS zstate := ⟨⟨by simp [zstate], ⟨by simp [zstate], by simp [zstate]⟩, by simp [zstate], ⟨by simp [zstate], by simp [zstate]⟩, ⟨by simp [zstate], by simp [zstate]⟩⟩, by simp [zstate], by simp [zstate]⟩
theorem decS_small (b : List UInt8) : SmallS (decS b).1 := by
  cases h : (decS b).2 with
  | true => exact ok_smallS (decS_ok h).1
  | false => rw [decS_no h]; exact zstate_small
/-! ### parts -/
def partB (b : List UInt8) (at_ : Int) : List UInt8 × Bool := if 0 ≤ at_ ∧ at_ < (b.length : Int) then ((b.drop at_.toNat).take 64, true) else ([], false)
theorem part_eq {b : List UInt8} (hb : b.length ≤ 140737488355328) {at_ : Int} (_ha : i64ok at_) : blob_Part.f b at_ = some (partB b at_) := by
  unfold blob_Part.f partB blob_Part.J1
  by_cases h0 : at_ < 0
  · rw [if_pos h0, if_pos rfl, if_neg (by omega)]
  · rw [if_neg h0]
    by_cases h1 : at_ ≥ (b.length : Int)
    · rw [decide_eq_true h1, if_pos rfl, if_neg (by omega)]
    · have hm : mn (w64 (at_ + 64)) (b.length : Int) = min (at_ + 64) (b.length : Int) := by rw [mn_eq, w64_id (by omega)]
      rw [decide_eq_false h1, if_neg (by simp), if_pos (by omega), hm, cut_eq ⟨by omega, by omega, by omega⟩]
      simp only [Option.bind_some]
      have e : List.drop at_.toNat (List.take (min (at_ + 64) (b.length : Int)).toNat b) = (b.drop at_.toNat).take 64 := by
        rw [List.drop_take]
        by_cases hc : at_ + 64 ≤ (b.length : Int)
        · rw [show (min (at_ + 64) (b.length : Int)).toNat - at_.toNat = 64 by omega]
        · rw [List.take_of_length_le (by rw [List.length_drop]; omega), List.take_of_length_le (by rw [List.length_drop]; omega)]
      rw [e, clone_u8 (by rw [List.length_take]; omega)]
      rfl
theorem part1_eq {b : List UInt8} (hb : b.length ≤ 140737488355328) {at_ : Int} (_ha : i64ok at_) : hocketref15_Part.f b at_ = some (partB b at_) := by
  unfold hocketref15_Part.f partB hocketref15_Part.J1
  by_cases h0 : at_ < 0
  · rw [if_pos h0, if_pos rfl, if_neg (by omega)]
  · rw [if_neg h0]
    by_cases h1 : at_ ≥ (b.length : Int)
    · rw [decide_eq_true h1, if_pos rfl, if_neg (by omega)]
    · have hm : mn (w64 (at_ + 64)) (b.length : Int) = min (at_ + 64) (b.length : Int) := by rw [mn_eq, w64_id (by omega)]
      rw [decide_eq_false h1, if_neg (by simp), if_pos (by omega), hm, cut_eq ⟨by omega, by omega, by omega⟩]
      simp only [Option.bind_some]
      have e : List.drop at_.toNat (List.take (min (at_ + 64) (b.length : Int)).toNat b) = (b.drop at_.toNat).take 64 := by
        rw [List.drop_take]
        by_cases hc : at_ + 64 ≤ (b.length : Int)
        · rw [show (min (at_ + 64) (b.length : Int)).toNat - at_.toNat = 64 by omega]
        · rw [List.take_of_length_le (by rw [List.length_drop]; omega), List.take_of_length_le (by rw [List.length_drop]; omega)]
      rw [e, app_eq (by simp only [List.length_nil, List.length_take]; omega)]
      rfl
end Go.Gp
