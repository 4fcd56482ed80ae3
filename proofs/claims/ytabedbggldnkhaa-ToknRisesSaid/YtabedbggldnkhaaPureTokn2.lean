/- What the statements say, of the plain functions. -/
import Derived.Test.YtabedbggldnkhaaDefs
import Derived.Test.YtabedbggldnkhaaLe
import Derived.Test.YtabedbggldnkhaaThInts
import Derived.Test.YtabedbggldnkhaaThTokn
/- Layer 17: what is safe never falls. -/
namespace Go.Gp
open Go
theorem awake17 : hocketlaw17_awake.f 100 = some () := by decide +kernel
theorem band_lt (x m : Int) (k : Nat) (hm : m = 2 ^ k - 1) (hk : k < 63) : 0 ≤ band .i64 x m ∧ band .i64 x m < 2 ^ k := by subst hm; exact band_le x k hk
theorem nodeN (n : Int) : ∃ k : Nat, w64 ((Int.tmod (band .i64 n 255) 7) + 1) = (k : Int) ∧ 1 ≤ k ∧ k ≤ 7 := by
  have hb : band .i64 n 255 = n % 256 := band_m n 255 8 rfl (by decide)
  rw [hb]
  have ht := tmod_nn (x := n % 256) (y := 7) (by omega) (by omega)
  exact ⟨((n % 256).tmod 7 + 1).toNat, by rw [w64_id (by omega)]; omega, by omega, by omega⟩
theorem repeat_small {k L : Nat} (hk1 : 1 ≤ k) (hk : k ≤ 7) (hL : L < 256) : slices_Repeat_sint_int.f 100 [(L : Int)] (k : Int) = some (List.replicate k (L : Int)) := by
  have h : ∀ k : Fin 8, ∀ L : Fin 256, slices_Repeat_sint_int.f 100 [((L : Nat) : Int)] ((k : Nat) : Int) = some (List.replicate (k : Nat) ((L : Nat) : Int)) := by decide +kernel
  exact h ⟨k, by omega⟩ ⟨L, hL⟩
theorem set_all {l : List Int} {p : Nat} {x : Int} {R : Int → Prop} (h : ∀ z ∈ l, R z) (hx : R x) : ∀ z ∈ l.set p x, R z := fun z hz => by
  rcases List.mem_or_eq_of_mem_set hz with h1 | rfl
  · exact h z h1
  · exact hx
/-- What holds of the token, round by round. -/
structure TI2 (k i : Nat) (have_ : List Int) (safe : Int) (t : api_Msg) : Prop where
  hv : have_ = t.Have
  len : have_.length = k
  lo : 0 ≤ t.Seq
  hi : t.Seq ≤ 255 + 4 * i
  all : ∀ z ∈ have_, 0 ≤ z ∧ z ≤ t.Seq
  sf : safe = safeL have_
  nl : t.Need.length ≤ 8
  nd : ∀ z ∈ t.Need, z ≤ t.Seq
theorem hocketlaw17_ToknRises.pure (n : Int) (l : List Int) (length : Int) {o0 o2 : Prop} (_ : o0) (_h : l.length ≤ 140737488351232 ∧ ∀ x ∈ l, i64ok x) (_ : o2) : ∃ K r, hocketlaw17_ToknRises.f K n l length = some r := by
  refine ⟨100, sat_pure ?_⟩
  obtain ⟨k, hk, hk1, hk7⟩ := nodeN n
  have hL0 := band_lt length 255 8 rfl (by decide)
  obtain ⟨L, hL⟩ : ∃ L : Nat, band .i64 length 255 = L := ⟨(band .i64 length 255).toNat, by omega⟩
  have hL256 : L < 256 := by omega
  unfold hocketlaw17_ToknRises.f
  rw [hk, hL]
  have hmn : mn (mx (k : Int) 1) 7 = k := by simp only [mn_eq, mx_eq]; omega
  refine sat_b (v := ⟨7, 0, 0, 8, 0, 0, false, 0, 0, 0, 0, ([] : List UInt8), 1, (L : Int), List.replicate k (L : Int), ([] : List Int), 0, ⟨0, 0, ⟨0, 0, ([] : List UInt8), ([] : List UInt8), ([] : List UInt8)⟩⟩⟩) (by unfold tokn_First.f; rw [hmn, repeat_small hk1 hk7 hL256]; rfl) ?_
  refine sat_b (mk_eq (by omega)) ?_
  rw [Int.toNat_natCast]
  have main : ∀ t0 : api_Msg, t0.Have = List.replicate k (L : Int) → t0.Seq = L → t0.Need = [] → Sat (hocketlaw17_ToknRises.J1 100 l n length t0 (List.replicate k (L : Int))) (fun _ => True) := fun t0 e1 e2 e3 => by
    unfold hocketlaw17_ToknRises.J1
    rw [hL]
    refine sat_loop (fun v : List Int × Int × Int × api_Msg => (60 - v.2.2.1).toNat) (fun v => ∃ i : Nat, v.2.2.1 = i ∧ i ≤ 60 ∧ TI2 k i v.1 v.2.1 v.2.2.2) ?_ 100 _ ⟨0, rfl, by omega, ⟨e1.symm, by simp, by rw [e2]; omega, by rw [e2]; omega, ?_, ?_, by rw [e3]; simp, by rw [e3]; simp⟩⟩ (by simp only; omega)
    · rintro ⟨hv, safe, ii, t⟩ ⟨i, hi, hi60, hT⟩ ag hag
      simp only at hi hT
      subst hi
      obtain ⟨t1, t2, t3, t4, t5, t6, t7, t8⟩ := hT
      show Sat (hocketlaw17_ToknRises.B1 100 l n _ ag hv safe i t) _
      unfold hocketlaw17_ToknRises.B1
      have fin : Sat (hocketlaw17_ToknRises.J3 100 i n t l hv safe ag (fun v => hocketlaw17_ToknRises.J2 100) false) (fun _ => True) := by
        unfold hocketlaw17_ToknRises.J3 hocketlaw17_ToknRises.J2
        exact sat_f (by simp) (sat_b awake17 (sat_r trivial))
      refine sat_if (fun hlt => ?_) (fun _ => fin)
      by_cases hi : (i : Int) < 60
      · rw [decide_eq_true hi]
        unfold hocketlaw17_ToknRises.J3
        rw [hk]
        refine sat_t rfl (sat_b (rem_eq (by omega)) ?_)
        have hp0 := tmod_nn (x := (i : Int)) (y := (k : Int)) (by omega) (by omega)
        obtain ⟨p, hp⟩ : ∃ p : Nat, (i : Int).tmod k = p := ⟨((i : Int).tmod k).toNat, by omega⟩
        rw [hp]
        have hpk : p < k := by omega
        have hlen : t.Have.length < 90 := by rw [← t1]; omega
        refine sat_b (room_eq hlen) ?_
        obtain ⟨x, hx⟩ : ∃ x, ix l (i : Int) = some x := ⟨_, ix_get (by omega) (by omega)⟩
        have hphv : p < hv.length := by omega
        have hixp : ix hv (p : Int) = some hv[p] := by have := ix_get (xs := hv) (i := (p : Int)) (by omega) (by simpa using hphv); simpa using this
        have hsafe0 : safe ≤ hv[p] := by rw [t6]; exact safeL_le (List.getElem_mem _)
        have hvp := t5 hv[p] (List.getElem_mem _)
        have hne : hv ≠ [] := fun h => by rw [h] at hphv; simp at hphv
        have hsafe1 : 0 ≤ safe := by rw [t6]; exact le_safeL hne (fun z hz => (t5 z hz).1)
        have hroom : roomL t = mn (mx (safe + 16 - t.Seq) 0) 4 := by
          unfold roomL
          rw [← t1, ← t6, w64_id (n := safe + 16) (by omega), w64_id (by omega)]
        have b7 := band_lt x 7 3 rfl (by decide)
        have d7 := band_lt (shr .i64 x 3) 7 3 rfl (by decide)
        obtain ⟨fr, hfr⟩ : ∃ fr, band .i64 x 7 = fr := ⟨_, rfl⟩
        obtain ⟨dd, hdd⟩ : ∃ dd, band .i64 (shr .i64 x 3) 7 = dd := ⟨_, rfl⟩
        obtain ⟨rm, hrm⟩ : ∃ rm, roomL t = rm := ⟨_, rfl⟩
        rw [hfr] at b7
        rw [hdd] at d7
        have hrm2 : rm = min (max (safe + 16 - t.Seq) 0) 4 := by rw [← hrm, hroom, mn_eq, mx_eq]
        obtain ⟨sq, hsq⟩ : ∃ sq, w64 (t.Seq + mn fr rm) = sq := ⟨_, rfl⟩
        have hsq2 : sq = t.Seq + min fr rm := by rw [← hsq, mn_eq, w64_id (by omega)]
        obtain ⟨nw, hnw⟩ : ∃ nw, mn (w64 (hv[p] + dd)) sq = nw := ⟨_, rfl⟩
        have hnw2 : nw = min (hv[p] + dd) sq := by rw [← hnw, mn_eq, w64_id (by omega)]
        refine sat_b hx (sat_b hixp (sat_b hx (sat_b hixp ?_)))
        rw [hfr, hdd, hrm, hsq, hnw, Int.toNat_natCast]
        have hset : ix (hv.set p nw) (p : Int) = some nw := ix_eq (by omega) (by rw [Int.toNat_natCast]; exact List.getElem?_set_self hphv)
        refine sat_b hset ?_
        have hwn : w64 (nw + 1) = nw + 1 := w64_id (by omega)
        rw [hwn]
        have all' : ∀ z ∈ hv.set p nw, safe ≤ z ∧ 0 ≤ z ∧ z ≤ sq := set_all (fun z hz => ⟨by rw [t6]; exact safeL_le hz, by have := t5 z hz; omega, by have := t5 z hz; omega⟩) (by omega)
        have hne' : hv.set p nw ≠ [] := fun h => by have := congrArg List.length h; simp at this; exact hne this
        have hleast : safe ≤ safeL (hv.set p nw) := le_safeL hne' (fun z hz => (all' z hz).1)
        have hleast0 : safeL (hv.set p nw) ≤ sq := by
          have := safeL_le (l := hv.set p nw) (x := nw) (List.mem_of_getElem? (i := p) (List.getElem?_set_self hphv))
          omega
        refine sat_loop (fun v : List Int × Int => 9 - v.1.length) (fun v => v.1.length ≤ 8 ∧ -1000 ≤ v.2 ∧ v.2 ≤ 10000 + v.1.length ∧ ∀ z ∈ v.1, z ≤ sq) ?_ 100 _ ⟨by simp, by simp only; omega, by simp only; omega, by simp⟩ (by simp only; omega)
        rintro ⟨ms, q⟩ ⟨m1, m2, m3, m4⟩ ag2 hag2
        simp only at m1 m2 m3 m4
        show Sat (hocketlaw17_ToknRises.B4 100 t x rm _ ag2 ms q) _
        unfold hocketlaw17_ToknRises.B4
        rw [hfr, hsq]
        have after : Sat (hocketlaw17_ToknRises.J4 100 p n hv hv[p] x t x rm safe ag i ms) (fun _ => True) := by
          unfold hocketlaw17_ToknRises.J4
          rw [hk, hfr, hdd, hsq, hnw, Int.toNat_natCast]
          refine sat_b (rem_eq (by omega)) (sat_b hset ?_)
          refine sat_bs (pass_sat hlen (by omega) (by simp) (by omega) _ _ _ _ _) ?_
          rintro ⟨u, again⟩ ⟨p1, p2, p3, p4, p5, _⟩
          simp only at p1 p2 p3 p4 p5
          have hH : haveL t.Have (p : Int) nw = hv.set p nw := by
            unfold haveL
            rw [← t1, if_pos (by omega), Int.toNat_natCast]
          rw [hH] at p1 p5
          have hfr0 : mx fr 0 = fr := by rw [mx_eq]; omega
          rw [hrm, hfr0, hsq] at p2
          unfold hocketlaw17_ToknRises.J5
          rw [hfr, hdd, hsq, hnw, Int.toNat_natCast]
          have hlen' : (hv.set p nw).length = k := by rw [List.length_set]; exact t2
          have h0lt : 0 < (hv.set p nw).length := by omega
          have hix0 : ix (hv.set p nw) 0 = some (hv.set p nw)[0] := by have := ix_get (xs := hv.set p nw) (i := 0) (by omega) (by simp; omega); simpa using this
          refine sat_b hix0 ?_
          refine sat_loop (fun v : Int × Int => ((k : Int) - v.2).toNat) (fun v => ∃ j : Nat, v.2 = j ∧ j ≤ k ∧ (∀ z ∈ (hv.set p nw).take j, v.1 ≤ z) ∧ (∀ y, (∀ z ∈ hv.set p nw, y ≤ z) → y ≤ v.1)) ?_ 100 _ ⟨0, rfl, by omega, by simp, fun y hy => hy _ (List.getElem_mem _)⟩ (by simp only; omega)
          rintro ⟨least, jj⟩ ⟨j, hj, q1, q2, q3⟩ ag3 hag3
          simp only at hj q2 q3
          subst hj
          show Sat (hocketlaw17_ToknRises.B3 100 hv p hv[p] x t x rm _ ag3 least j) _
          unfold hocketlaw17_ToknRises.B3
          rw [hfr, hdd, hsq, hnw, Int.toNat_natCast]
          refine sat_if (fun hlt3 => ?_) (fun hge3 => ?_)
          · have hjl : j < (hv.set p nw).length := by omega
            refine sat_b (ix_get (by omega) (by simpa using hjl)) ?_
            have hw : w64 ((j : Int) + 1) = ((j + 1 : Nat) : Int) := by rw [w64_succ (by omega) (by omega)]; simp
            rw [hw]
            refine hag3 _ ⟨j + 1, rfl, by omega, ?_, ?_⟩ (by simp only; omega)
            · intro z hz
              simp only [Int.toNat_natCast]
              rw [← List.take_append_getElem (l := hv.set p nw) (i := j) hjl] at hz
              simp only [List.mem_append, List.mem_singleton] at hz
              rw [mn_eq]
              rcases hz with hz | rfl
              · have := q2 z hz; omega
              · omega
            · intro y hy
              simp only [Int.toNat_natCast]
              rw [mn_eq]
              have e1 := q3 y hy
              have e2 := hy _ (List.getElem_mem hjl)
              omega
          · have hjk : j = k := by omega
            rw [List.take_of_length_le (by omega)] at q2
            have hls : least = safeL (hv.set p nw) := by
              have e1 := le_safeL hne' q2
              have e2 := q3 (safeL (hv.set p nw)) (fun z hz => safeL_le hz)
              omega
            subst hls
            show Sat (hocketlaw17_ToknRises.J6 100 u t t x rm safe ag hv p hv[p] x i n _) _
            unfold hocketlaw17_ToknRises.J6
            rw [hfr, hsq]
            refine sat_t p3 (sat_t p2 (sat_b (safe_eq (by rw [p1]; omega)) (sat_t (by rw [p1]) (sat_f (by omega) ?_))))
            have seven : Sat (hocketlaw17_ToknRises.J7 100 u (safeL (hv.set p nw)) ag hv p hv[p] x t x rm i false) (fun _ => True) := by
              unfold hocketlaw17_ToknRises.J7
              refine sat_f (by simp) ?_
              refine sat_loop (fun v : Int => ((u.Need.length : Int) - v).toNat) (fun v => 0 ≤ v ∧ v ≤ u.Need.length) ?_ 100 _ (by omega) (by omega)
              intro z hz ag4 hag4
              show Sat (hocketlaw17_ToknRises.B2 100 u _ _ ag4 z) _
              unfold hocketlaw17_ToknRises.B2
              refine sat_if (fun hlt4 => ?_) (fun _ => ?_)
              · have hin : u.Need[z.toNat] ∈ u.Need := List.getElem_mem _
                have hix := ix_get (xs := u.Need) hz.1 (by omega)
                obtain ⟨g1, g2⟩ := p5 _ hin
                have g3 : u.Need[z.toNat] ≤ sq := by
                  rcases g2 with g2 | g2
                  · have := t8 _ g2; omega
                  · exact m4 _ g2
                refine sat_b hix (sat_f (by omega) (sat_b hix (sat_f (by rw [p2]; omega) ?_)))
                rw [w64_id (by omega)]
                exact hag4 _ (by omega) (by omega)
              · show Sat (hocketlaw17_ToknRises.J8 100 ag hv p hv[p] x t x rm (safeL (hv.set p nw)) i u) _
                unfold hocketlaw17_ToknRises.J8
                rw [hfr, hdd, hsq, hnw, Int.toNat_natCast]
                have hw : w64 ((i : Int) + 1) = ((i + 1 : Nat) : Int) := by rw [w64_succ (by omega) (by omega)]; simp
                rw [hw]
                refine hag _ ⟨i + 1, rfl, by omega, ⟨p1.symm, hlen', by simp only; rw [p2]; omega, by simp only; rw [p2]; omega, fun z hz => ?_, rfl, p4, fun z hz => ?_⟩⟩ (by simp only; omega)
                · have := all' z hz; simp only; rw [p2]; omega
                · simp only
                  rw [p2]
                  rcases (p5 z hz).2 with g2 | g2
                  · have := t8 _ g2; omega
                  · exact m4 _ g2
            have hhl : ((u.Have.length : Int) != w64 ((Int.tmod (band .i64 n 255) 7) + 1)) = false := by
              rw [hk, p1, hlen']; simp
            rw [w64_id (n := safeL (hv.set p nw) + 16) (by omega), hhl, p2]
            refine sat_if (fun c1 => ?_) (fun _ => sat_f (by omega) seven)
            exact sat_f (by omega) (sat_f (by omega) seven)
        have nine : Sat (hocketlaw17_ToknRises.J9 100 ms q ag2 (fun v => hocketlaw17_ToknRises.J4 100 p n hv hv[p] x t x rm safe ag i v) false) (fun _ => True) := by
          unfold hocketlaw17_ToknRises.J9
          exact sat_f (by simp) after
        refine sat_if (fun hq => ?_) (fun _ => nine)
        by_cases h8 : (ms.length : Int) < 8
        · rw [decide_eq_true h8]
          unfold hocketlaw17_ToknRises.J9
          refine sat_t rfl (sat_b (app_eq (by simp only [List.length_singleton]; omega)) ?_)
          rw [w64_id (by omega)]
          refine hag2 _ ⟨by simp; omega, by simp only; omega, by simp; omega, ?_⟩ (by simp; omega)
          intro z hz
          simp only [List.mem_append, List.mem_singleton] at hz
          rcases hz with hz | rfl
          · exact m4 z hz
          · exact hq
        · rw [decide_eq_false h8]
          exact nine
      · rw [decide_eq_false hi]
        exact fin
    · intro z hz
      simp only [List.mem_replicate] at hz
      rw [hz.2, e2]
      omega
    · obtain ⟨j, rfl⟩ : ∃ j, k = j + 1 := ⟨k - 1, by omega⟩
      rw [List.replicate_succ]
      have : ∀ j : Nat, (List.replicate j (L : Int)).foldl min (L : Int) = L := by
        intro j
        induction j with
        | zero => rfl
        | succ j ih => rw [List.replicate_succ, List.foldl_cons, Int.min_self, ih]
      exact (this j).symm
  refine sat_loop (fun v : List Int × Int => ((k : Int) - v.2).toNat) (fun v => ∃ i : Nat, v.2 = i ∧ i ≤ k ∧ v.1.length = k ∧ v.1.take i = List.replicate i (L : Int)) ?_ 100 _ ⟨0, rfl, by omega, by simp, by simp⟩ (by simp only; omega)
  rintro ⟨r, j⟩ ⟨i, h1, h2, h3, h4⟩ ag hag
  simp only at h1 h3 h4
  subst h1
  show Sat (hocketlaw17_ToknRises.B5 100 _ length _ ag r i) _
  unfold hocketlaw17_ToknRises.B5
  rw [List.length_replicate, hL]
  refine sat_if (fun hlt => ?_) (fun hge => ?_)
  · refine sat_b (ix_get (by omega) (by simp; omega)) ?_
    have hw : w64 ((i : Int) + 1) = ((i + 1 : Nat) : Int) := by rw [w64_succ (by omega) (by omega)]; simp
    rw [hw]
    refine hag _ ⟨i + 1, rfl, by omega, by simpa using h3, ?_⟩ (by simp only; omega)
    simp only [Int.toNat_natCast]
    rw [List.take_add_one, List.take_set_of_le (by omega), List.getElem?_set_self (by omega), h4, List.replicate_succ']
    rfl
  · have : i = k := by omega
    subst this
    rw [List.take_of_length_le (by omega)] at h4
    rw [h4]
    exact main _ rfl rfl rfl
end Go.Gp
