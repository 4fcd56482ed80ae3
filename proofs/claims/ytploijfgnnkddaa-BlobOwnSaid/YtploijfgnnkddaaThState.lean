/- What the statements say, of the plain functions. -/
import Derived.Test.YtploijfgnnkddaaDefs
import Derived.Test.YtploijfgnnkddaaLe
import Derived.Test.YtploijfgnnkddaaThInts
import Derived.Test.YtploijfgnnkddaaThPack
import Derived.Test.YtploijfgnnkddaaThMesg
import Derived.Test.YtploijfgnnkddaaThMesg2
import Derived.Test.YtploijfgnnkddaaThMesg3
import Derived.Test.YtploijfgnnkddaaThMesg4
import Derived.Test.YtploijfgnnkddaaThMesg5
import Derived.Test.YtploijfgnnkddaaThMesg6
import Derived.Test.YtploijfgnnkddaaThMsg
import Derived.Test.YtploijfgnnkddaaThMesg7
import Derived.Test.YtploijfgnnkddaaThMesg8
import Derived.Test.YtploijfgnnkddaaThMesgS
import Derived.Test.YtploijfgnnkddaaGpCrc
import Derived.Test.YtploijfgnnkddaaThCrc
import Derived.Test.YtploijfgnnkddaaThFram
import Derived.Test.YtploijfgnnkddaaThPack1
import Derived.Test.YtploijfgnnkddaaThMesg9
import Derived.Test.YtploijfgnnkddaaThMesg10
import Derived.Test.YtploijfgnnkddaaThRows
import Derived.Test.YtploijfgnnkddaaThMach
import Derived.Test.YtploijfgnnkddaaThMach2
import Derived.Test.YtploijfgnnkddaaThMach3
import Derived.Test.YtploijfgnnkddaaThMach4
import Derived.Test.YtploijfgnnkddaaThBlob
import Derived.Test.YtploijfgnnkddaaThBlob2
import Derived.Test.YtploijfgnnkddaaThStep
/- States of numbers; what is cut, or turned. -/
namespace Go.Gp
open Go
theorem state_ok31 {K : Nat} (hK : K = 2000000) (l : List Int) (a r : Int) : Sat (hocketlaw15_State.f K l a r) (fun s => OkS s ∧ s.Rest.length ≤ 31) := by
  have hK2 : 1000 ≤ K := by rw [hK]; decide
  clear hK
  unfold hocketlaw15_State.f
  refine sat_bs (machine_ok (by omega) l) (fun m hm => ?_)
  have b1 := band_lt r 31 5 rfl (by decide)
  have b2 := band_lt a 65535 16 rfl (by decide)
  obtain ⟨m1, m2⟩ := okM_rd hm
  refine sat_loop (fun v : Int × List api_Entry => (31 - v.1).toNat) (fun v => ∃ i : Nat, v.1 = (i : Int) ∧ i ≤ 31 ∧ v.2.length = i ∧ ∀ e ∈ v.2, EntOk e) ?_ K _ ⟨0, rfl, by omega, rfl, by simp⟩ (by simp only; omega)
  rintro ⟨j, out⟩ ⟨i, g1, g2, g3, g4⟩ ag hag
  simp only at g1 g3 g4
  subst g1
  show Sat (hocketlaw15_State.B1 K r a _ ag (i : Int) out) _
  unfold hocketlaw15_State.B1 hocketlaw15_State.J1
  refine sat_if (fun hlt => ?_) (fun hge => ?_)
  · have hy : w64 ((i : Int) + 20) = ((i + 20 : Nat) : Int) := by rw [w64_id (by omega)]; omega
    rw [hy]
    obtain ⟨e, e1, e2, e3, e4⟩ := entry_num (w64 (shr .i64 a (wu64 (band .i64 (i : Int) 7)) + w64 ((i : Int) * 977))) (y := ((i + 20 : Nat) : Int)) (by omega)
    refine sat_b e1 (sat_b (app_eq (by simp only [List.length_singleton]; omega)) ?_)
    rw [w64_succN (by omega)]
    refine hag _ ⟨i + 1, rfl, by omega, by simp; omega, fun x hx => ?_⟩ (by simp only; omega)
    rcases List.mem_append.1 hx with hx | hx
    · exact g4 x hx
    · obtain rfl := List.mem_singleton.1 hx
      obtain ⟨c1, c2, c3, c4, c5⟩ := e2
      refine ⟨by simp only; omega, by simp only; omega, by simp only; omega, ?_, by simp only; omega, by simp only; omega, by simp only; omega⟩
      simp only
      rw [mx_eq]
      omega
  · refine sat_r ⟨⟨by simp only; omega, ?_, m1, m2, by simp only; omega, g4⟩, by simp only; omega⟩
    unfold big
    simp only
    omega
theorem state_ok {K : Nat} (hK : K = 2000000) (l : List Int) (a r : Int) : Sat (hocketlaw15_State.f K l a r) OkS := by
  obtain ⟨v, h1, h2, _⟩ := state_ok31 hK l a r
  exact ⟨v, h1, h2⟩
/-! ### what is cut -/
theorem WR.pre {α : Type} {rd : Rdr α} {w : α → List UInt8} {P : α → Prop} (h : WR rd w P) {x y : α} {r : List UInt8} (hx : P x) (hy : P y) (e : w x ++ r = w y) : r = [] := by
  have h1 := h.enc r hx
  have h2 := h.enc [] hy
  rw [List.append_nil, ← e, h1] at h2
  simpa using (Prod.mk.inj h2).2
def rdSt : Rdr (Int × List UInt8 × List api_Entry) := rd2 Prod.mk (rnum big) (rd2 Prod.mk (rbytes 1048576) rdRest)
theorem wr_st : WR rdSt (fun p => numW p.1 ++ (bytesW p.2.1 ++ rowW entW p.2.2)) (fun p => (0 ≤ p.1 ∧ p.1 ≤ big) ∧ p.2.1.length ≤ 1048576 ∧ ((p.2.2.length : Int) ≤ 64 ∧ ∀ x ∈ p.2.2, EntOk x)) := by
  have hh : held2 1048576 = 1048576 := by decide
  have w1 := wr_rd2 (f := Prod.mk) (fun p : List UInt8 × List api_Entry => bytesW p.1 ++ rowW entW p.2) (fun p => p.1.length ≤ 1048576 ∧ ((p.2.length : Int) ≤ 64 ∧ ∀ x ∈ p.2, EntOk x)) (wr_bytes (top := 1048576)) wr_rest (fun _ _ _ _ => rfl) (fun x y hx hy => ⟨by rw [hh] at hx; exact hx, hy⟩) (fun z hz => ⟨z.1, z.2, rfl, by rw [hh]; exact hz.1, hz.2⟩)
  exact wr_rd2 (f := Prod.mk) _ _ (wr_num (top := big) (by decide)) w1 (fun _ _ _ _ => rfl) (fun x y hx hy => ⟨hx, hy⟩) (fun z hz => ⟨z.1, z.2, rfl, hz.1, hz.2⟩)
theorem stW_pre {s t : api_State} {r : List UInt8} (hs : OkS s) (ht : OkS t) (e : stW s ++ r = stW t) : r = [] := by
  have ok : ∀ {s : api_State}, OkS s → (0 ≤ s.At ∧ s.At ≤ big) ∧ (machW s.Machine).length ≤ 1048576 ∧ ((s.Rest.length : Int) ≤ 64 ∧ ∀ x ∈ s.Rest, EntOk x) := fun {s} h => by
    have h1 := h.a
    have h2 := h.b
    have h3 := h.l
    have h4 := machW_len (okRd_small h.m)
    exact ⟨⟨h1, by omega⟩, by omega, by omega, h.e⟩
  exact wr_st.pre (x := (s.At, machW s.Machine, s.Rest)) (y := (t.At, machW t.Machine, t.Rest)) (ok hs) (ok ht) e
theorem decS_take {s : api_State} (h : OkS s) {k : Nat} (hk : k < (sealB (stW s)).length) : (decS ((sealB (stW s)).take k)).2 = false := by
  cases hd : (decS ((sealB (stW s)).take k)).2 with
  | false => rfl
  | true =>
    exfalso
    obtain ⟨h1, h2⟩ := decS_ok hd
    obtain ⟨t, ht⟩ : ∃ t, (decS ((sealB (stW s)).take k)).1 = t := ⟨_, rfl⟩
    rw [ht] at h1 h2
    have e : sealB (stW t) ++ (sealB (stW s)).drop k = sealB (stW s) := by rw [← h2, List.take_append_drop]
    have hr : (sealB (stW s)).drop k ≠ [] := fun g => by
      have := congrArg List.length g
      rw [List.length_drop, List.length_nil] at this
      omega
    have e2 : stW t ++ (sealB (stW s)).drop k = stW s := by
      have e3 := e
      unfold sealB at e3
      rw [List.append_assoc] at e3
      exact (List.append_inj e3 rfl).2
    exact hr (stW_pre h1 h e2)
/-- A state's bytes are few. -/
theorem stW_lenR {s : api_State} (h : OkS s) : (stW s).length ≤ 1950 + 170 * s.Rest.length := by
  obtain ⟨⟨⟨r1, ⟨q1, q2⟩, ⟨l1, l2⟩, p1, p2⟩, t1, t2⟩, _⟩ := And.intro h.m h.r
  have b0 := bytesW_len r1 (by omega)
  have b1 := rowW_len (w := bytesW) (xs := s.Machine.Objects.Queue) (B := 25) (fun x hx => bytesW_len (q2 x hx) (by omega)) (by omega)
  have b2 := rowW_len (w := numW) (xs := s.Machine.Objects.Lock) (B := 9) (fun x _ => numW_len x) (by omega)
  have b3 := rowW_len (w := pairW) (xs := s.Machine.Objects.Map) (B := 42) (fun x hx => by
    obtain ⟨g1, g2⟩ := p2 x hx
    have := bytesW_len g1 (by omega)
    have := bytesW_len g2 (by omega)
    unfold pairW
    rw [List.length_append]; omega) (by omega)
  have b4 := rowW_len (w := lastW) (xs := s.Machine.Table) (B := 61) (fun x hx => by
    obtain ⟨_, _, _, _, g⟩ := t2 x hx
    have := bytesW_len g (by omega)
    have h2 := numW_len x.Sess
    have h3 := numW_len x.Seq
    have h4 := numW_len x.Result.Err
    have h5 := numW_len (w64 (x.Result.N + 1))
    unfold lastW
    simp only [List.length_append]; omega) (by omega)
  have hm : (machW s.Machine).length ≤ 1900 := by
    unfold machW
    simp only [List.length_append]
    omega
  have c1 := bytesW_len hm (by omega)
  have c2 := rowW_len (w := entW) (xs := s.Rest) (B := 170) (fun e he => by
    obtain ⟨_, _, _, _, h1, h2, h3⟩ := h.e e he
    have l4 := numsL_len [e.Sess, e.Seq, e.Cmd.Kind, e.Cmd.Who]
    simp only [List.length_cons, List.length_nil] at l4
    have g5 := enc_len9 (n := e.Cmd.Key.length) (by omega)
    have g6 := enc_len9 (n := e.Cmd.Val.length) (by omega)
    have g7 := enc_len9 (n := e.Cmd.Old.length) (by omega)
    unfold entW cmdW
    simp only [List.length_append]
    omega) (by have := h.l; omega)
  have c3 := numW_len s.At
  have := h.l
  unfold stW
  simp only [List.length_append]
  omega
theorem stW_short {s : api_State} (h : OkS s) : (stW s).length ≤ 19000 := by
  have := stW_lenR h
  have := h.l
  omega
/-! ### what the document fixes -/
def s3 : api_State := ⟨3, (⟨(⟨([] : List UInt8), ([] : List (List UInt8)), ([] : List Int), ([] : List api_Pair)⟩ : api_Objects), ([] : List api_Last)⟩ : api_Machine), ([(⟨1, 1, (⟨1, 0, ([] : List UInt8), ([] : List UInt8), ([] : List UInt8)⟩ : api_Cmd)⟩ : api_Entry)] : List api_Entry)⟩
theorem e1ok : EntOk (⟨1, 1, (⟨1, 0, ([] : List UInt8), ([] : List UInt8), ([] : List UInt8)⟩ : api_Cmd)⟩ : api_Entry) := ⟨by simp, by simp, by simp, by simp, by simp, by simp, by simp⟩
theorem okS_of (n : Int) (hn : 0 ≤ n ∧ n ≤ 1000) (l : List api_Entry) (hl : l.length ≤ 64) (he : ∀ e ∈ l, EntOk e) : OkS ⟨n, zmach, l⟩ := by
  obtain ⟨h1, h2⟩ := okM_rd zmach_ok
  exact ⟨hn.1, by unfold big; simp only; omega, h1, h2, hl, he⟩
theorem s3_ok : OkS s3 := okS_of 3 (by omega) _ (by simp) (by simp [e1ok])
theorem enc1 {n : Nat} (h : n < 128) : enc n = [UInt8.ofNat n] := enc_lt h
theorem machW0 : machW zmach = [0, 0, 0, 0, 0] := by
  unfold machW bytesW rowW zmach
  simp only [List.length_nil, List.map_nil, List.flatten_nil, List.append_nil]
  rw [enc1 (by decide)]
  rfl
theorem stW3 : (stW s3).length = 15 := by
  have hm : machW s3.Machine = [0, 0, 0, 0, 0] := machW0
  have h0 : held2 0 = 0 := by decide
  have h1 : held2 1 = 1 := by decide
  have h3 : held2 3 = 3 := by decide
  unfold stW
  rw [hm]
  unfold numW bytesW rowW entW cmdW s3
  simp only [List.length_cons, List.length_nil, List.map_cons, List.map_nil, List.flatten_cons, List.flatten_nil, List.append_nil, numsL_cons, numsL_nil, h0, h1, h3]
  rw [enc1 (n := 3) (by decide), enc1 (n := 0 + 1 + 1 + 1 + 1 + 1) (by decide), enc1 (n := 0 + 1) (by decide), enc1 (n := 0) (by decide)]
  rfl
theorem awake_blob {K : Nat} (hK : K = 2000000) : hocketlaw15_awake.f K = some () := by
  have hK2 : 1000 ≤ K := by rw [hK]; decide
  have hl : (sealB (stW s3)).length = 19 := by rw [sealB_len, stW3]
  unfold hocketlaw15_awake.f
  change Option.bind (blob_Encode.f K s3) _ = _
  rw [blobEncode_eq hK (ok_smallS s3_ok)]
  simp only [Option.bind_some]
  rw [blobDecode_eq hK (by omega) (by omega), decS_seal s3_ok]
  simp only [Option.bind_some]
  have hw : w64 (Int.tdiv ((sealB (stW s3)).length : Int) 2) = ((9 : Nat) : Int) := by rw [hl]; rfl
  rw [hw, cut_eq ⟨by omega, by omega, by omega⟩]
  simp only [Option.bind_some, Int.toNat_natCast, Int.toNat_zero, List.drop_zero]
  rw [blobDecode_eq hK (by rw [List.length_take]; omega) (by rw [List.length_take]; omega)]
  simp only [Option.bind_some]
  have hd := decS_take s3_ok (k := 9) (by omega)
  rw [part_eq (by omega) (by unfold i64ok; omega)]
  simp only [Option.bind_some]
  rw [part_eq (by omega) (by unfold i64ok; omega)]
  simp only [Option.bind_some]
  rw [if_pos trivial]
  change Option.bind (hocketref15_Same.f K s3 s3) _ = _
  rw [state_same (by omega) (ok_smallS s3_ok)]
  simp only [Option.bind_some]
  rw [if_pos (by simp), if_neg (by rw [hd]; simp)]
  have hp : partB (sealB (stW s3)) 4 = (((sealB (stW s3)).drop 4).take 64, true) := if_pos ⟨by omega, by omega⟩
  have hq : partB (sealB (stW s3)) ((sealB (stW s3)).length : Int) = ([], false) := if_neg (by omega)
  rw [hp, hq, if_pos rfl, if_pos (by rw [w64_id (by omega)]; simp only [List.length_take, List.length_drop]; omega), if_neg (by simp), if_pos (by omega)]
theorem fin_blob {K : Nat} (hK : K = 2000000) : Sat (Option.bind (hocketlaw15_awake.f K) fun _ => some ()) (fun _ => True) := sat_b (awake_blob hK) (sat_r trivial)
end Go.Gp
