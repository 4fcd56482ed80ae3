/- What the statements say, of the plain functions. -/
import Derived.Test.YtploijfgnnkddaaDefs
import Derived.Test.YtploijfgnnkddaaLe
import Derived.Test.YtploijfgnnkddaaThInts
import Derived.Test.YtploijfgnnkddaaThPack
import Derived.Test.YtploijfgnnkddaaThMesg
import Derived.Test.YtploijfgnnkddaaThMesg2
import Derived.Test.YtploijfgnnkddaaThMesg3
import Derived.Test.YtploijfgnnkddaaThMesg4
import Derived.Test.YtploijfgnnkddaaThMesg5
import Derived.Test.YtploijfgnnkddaaThMesg6
import Derived.Test.YtploijfgnnkddaaThMsg
import Derived.Test.YtploijfgnnkddaaThMesg7
import Derived.Test.YtploijfgnnkddaaThMesg8
import Derived.Test.YtploijfgnnkddaaThMesgS
import Derived.Test.YtploijfgnnkddaaGpCrc
import Derived.Test.YtploijfgnnkddaaThCrc
import Derived.Test.YtploijfgnnkddaaThFram
import Derived.Test.YtploijfgnnkddaaThPack1
import Derived.Test.YtploijfgnnkddaaThMesg9
import Derived.Test.YtploijfgnnkddaaThMesg10
import Derived.Test.YtploijfgnnkddaaThRows
import Derived.Test.YtploijfgnnkddaaThMach
import Derived.Test.YtploijfgnnkddaaThMach2
import Derived.Test.YtploijfgnnkddaaThMach3
import Derived.Test.YtploijfgnnkddaaThMach4
/- States in bytes. -/
namespace Go.Gp
open Go
theorem sealedK_eq {K : Nat} (hK : 20 ≤ K) {b : List UInt8} (hb : b.length < K) (hb2 : b.length ≤ 1000000000) : fram_Sealed.f K b = some (sealB b) := by
  unfold fram_Sealed.f
  rw [sum_eq hK hb (by omega)]
  simp only [Option.bind_some]
  rw [four_bytes, app_eq (by rw [le4_len]; omega)]
  rfl
theorem soundK_eq {K : Nat} (hK : 20 ≤ K) {b : List UInt8} (hb : b.length < K) (hb2 : b.length ≤ 1000000000) : fram_Sound.f K b = some (if 4 ≤ b.length then (b.drop 4, (unsealB b).isSome) else ([], false)) := by
  unfold fram_Sound.f
  by_cases h4 : b.length < 4
  · rw [if_pos (by omega), if_neg (by omega)]
  · rw [if_neg (by omega), if_pos (by omega)]
    have hcut : cut b 4 (b.length : Int) = some (b.drop 4) := by
      rw [cut_eq ⟨by omega, by omega, by omega⟩, Int.toNat_natCast, List.take_length]
      rfl
    rw [ix_get (xs := b) (i := 0) (by omega) (by simp; omega)]
    simp only [Option.bind_some]
    rw [ix_get (xs := b) (i := 1) (by omega) (by simp; omega)]
    simp only [Option.bind_some]
    rw [ix_get (xs := b) (i := 2) (by omega) (by simp; omega)]
    simp only [Option.bind_some]
    rw [ix_get (xs := b) (i := 3) (by omega) (by simp; omega)]
    simp only [Option.bind_some]
    rw [hcut]
    simp only [Option.bind_some]
    rw [sum_eq hK (by rw [List.length_drop]; omega) (by rw [List.length_drop]; omega)]
    simp only [Option.bind_some]
    rw [u32_le4]
    have ht : b.take 4 = [b[0], b[1], b[2], b[3]] := take4 (by omega)
    unfold unsealB
    rw [ht]
    congr 2
    by_cases h : [b[0], b[1], b[2], b[3]] = le4 (crc (b.drop 4))
    · rw [if_pos ⟨by omega, h⟩]; simpa using h
    · rw [if_neg (fun g => h g.2)]; simpa using h
/-! ### writing -/
def stW (s : api_State) : List UInt8 := numW s.At ++ (bytesW (machW s.Machine) ++ rowW entW s.Rest)
structure SmallE (e : api_Entry) : Prop where
  k : e.Cmd.Key.length ≤ 1000
  v : e.Cmd.Val.length ≤ 1000
  o : e.Cmd.Old.length ≤ 1000
structure SmallS (s : api_State) : Prop where
  m : SmallM s.Machine
  r : s.Rest.length ≤ 100
  e : ∀ e ∈ s.Rest, SmallE e
theorem entW_len {e : api_Entry} (h : SmallE e) : (entW e).length ≤ 3100 := by
  have l4 := numsL_len [e.Sess, e.Seq, e.Cmd.Kind, e.Cmd.Who]
  simp only [List.length_cons, List.length_nil] at l4
  have h1 := h.k
  have h2 := h.v
  have h3 := h.o
  have g5 := enc_len9 (n := e.Cmd.Key.length) (by omega)
  have g6 := enc_len9 (n := e.Cmd.Val.length) (by omega)
  have g7 := enc_len9 (n := e.Cmd.Old.length) (by omega)
  unfold entW cmdW
  simp only [List.length_append]
  omega
theorem stW_len {s : api_State} (h : SmallS s) : (stW s).length ≤ 900000 := by
  have h1 := machW_len h.m
  have h2 := bytesW_len h1 (by omega)
  have h3 := rowW_len (w := entW) (xs := s.Rest) (B := 3100) (fun x hx => entW_len (h.e x hx)) (by have := h.r; omega)
  have h4 := numW_len s.At
  have := h.r
  unfold stW
  simp only [List.length_append]
  omega
theorem blobEncode_eq {K : Nat} (hK : K = 2000000) {s : api_State} (h : SmallS s) : blob_Encode.f K s = some (sealB (stW s)) := by
  have put : ∀ (b : List UInt8) (e : api_Entry), b.length ≤ 10000000 → SmallE e → mach_PutEntry.f K b e = some (b ++ entW e) := fun b e hb he => by
    rw [hK]; exact putEntry_eq (by have := he.k; omega) (by have := he.v; omega) (by have := he.o; omega) hb
  have hK2 : 1000000 ≤ K := by rw [hK]; decide
  clear hK
  have h1 := machW_len h.m
  have h2 := bytesW_len h1 (by omega)
  have h4 := numW_len s.At
  have hr := h.r
  have hs := stW_len h
  have he := enc_len9 (n := s.Rest.length) (by omega)
  unfold blob_Encode.f
  rw [numw_eq (by omega) (by simp)]
  simp only [Option.bind_some]
  rw [machEncode_eq (by omega) h.m]
  simp only [Option.bind_some]
  rw [bytesw_eq (by omega) (by rw [List.nil_append]; omega) (by omega)]
  simp only [Option.bind_some]
  rw [numrow_eq (by omega) (by simp only [List.length_append, List.length_nil]; omega) _ (by omega)]
  simp only [Option.bind_some, List.nil_append]
  unfold blob_Encode.L1
  have := enc_iter (f := fun again v => blob_Encode.B1 K s (fun v => blob_Encode.J1 K v) again v.1 v.2) (xs := s.Rest) (w := entW) (g := fun v => blob_Encode.J1 K v) (B := 3100) (lim := 2000000) (fun ag i h' c hc => by
    simp only
    unfold blob_Encode.B1
    rw [if_pos (by omega), ix_get (by omega) (by simpa using h')]
    simp only [Option.bind_some, Int.toNat_natCast]
    rw [put _ _ (by omega) (h.e _ (List.getElem_mem h'))]
    simp only [Option.bind_some]
    rw [w64_succN (by omega)]) (fun ag c hc => by
    simp only
    unfold blob_Encode.B1
    rw [if_neg (by omega)]) (fun x hx => entW_len (h.e x hx)) s.Rest.length 0 K (numW s.At ++ bytesW (machW s.Machine) ++ enc s.Rest.length) (by omega) (by omega) (by simp only [List.length_append]; omega)
  refine Eq.trans this ?_
  have e : numW s.At ++ bytesW (machW s.Machine) ++ enc s.Rest.length ++ ((s.Rest.drop 0).map entW).flatten = stW s := by
    unfold stW rowW
    rw [List.drop_zero]
    simp only [List.append_assoc]
  rw [e]
  unfold blob_Encode.J1
  rw [sealedK_eq (by omega) (by omega) (by omega)]
  rfl
theorem blobEncode1_eq {K : Nat} (hK : K = 2000000) {s : api_State} (h : SmallS s) : hocketref15_Encode.f K s = some (sealB (stW s)) := by
  have put : ∀ (b : List UInt8) (e : api_Entry), b.length ≤ 10000000 → SmallE e → hocketref4_PutEntry.f K b e = some (b ++ entW e) := fun b e hb he => by
    rw [hK]; exact put1_eq (by have := he.k; omega) (by have := he.v; omega) (by have := he.o; omega) hb
  have hK2 : 1000000 ≤ K := by rw [hK]; decide
  clear hK
  have h1 := machW_len h.m
  have h2 := bytesW_len h1 (by omega)
  have h4 := numW_len s.At
  have hr := h.r
  have hs := stW_len h
  have he := enc_len9 (n := s.Rest.length) (by omega)
  unfold hocketref15_Encode.f
  rw [num1w_eq (by omega) (by simp)]
  simp only [Option.bind_some]
  rw [machEncode1_eq (by omega) h.m]
  simp only [Option.bind_some]
  rw [bytes1w_eq (by omega) (by rw [List.nil_append]; omega) (by omega)]
  simp only [Option.bind_some]
  rw [num1row_eq (by omega) (by simp only [List.length_append, List.length_nil]; omega) _ (by omega)]
  simp only [Option.bind_some, List.nil_append]
  unfold hocketref15_Encode.L1
  have := enc_iter (f := fun again v => hocketref15_Encode.B1 K s (fun v => hocketref15_Encode.J1 K v) again v.1 v.2) (xs := s.Rest) (w := entW) (g := fun v => hocketref15_Encode.J1 K v) (B := 3100) (lim := 2000000) (fun ag i h' c hc => by
    simp only
    unfold hocketref15_Encode.B1
    rw [if_pos (by omega), ix_get (by omega) (by simpa using h')]
    simp only [Option.bind_some, Int.toNat_natCast]
    rw [put _ _ (by omega) (h.e _ (List.getElem_mem h'))]
    simp only [Option.bind_some]
    rw [w64_succN (by omega)]) (fun ag c hc => by
    simp only
    unfold hocketref15_Encode.B1
    rw [if_neg (by omega)]) (fun x hx => entW_len (h.e x hx)) s.Rest.length 0 K (numW s.At ++ bytesW (machW s.Machine) ++ enc s.Rest.length) (by omega) (by omega) (by simp only [List.length_append]; omega)
  refine Eq.trans this ?_
  have e : numW s.At ++ bytesW (machW s.Machine) ++ enc s.Rest.length ++ ((s.Rest.drop 0).map entW).flatten = stW s := by
    unfold stW rowW
    rw [List.drop_zero]
    simp only [List.append_assoc]
  rw [e]
  unfold hocketref15_Encode.J1
  rw [four_eq (by omega) (by omega) (by omega)]
  rfl
/-! ### reading -/
def zstate : api_State := ⟨0, (⟨(⟨([] : List UInt8), ([] : List (List UInt8)), ([] : List Int), ([] : List api_Pair)⟩ : api_Objects), ([] : List api_Last)⟩ : api_Machine), ([] : List api_Entry)⟩
theorem shr_ent : Shr getE := ⟨fun b bad => by
  unfold getE
  dsimp only
  exact Nat.le_trans (rbytes_le _ _ _).1 (Nat.le_trans (rbytes_le _ _ _).1 (Nat.le_trans (rbytes_le _ _ _).1 (Nat.le_trans (rnum_le _ _ _) (Nat.le_trans (rnum_le _ _ _) (Nat.le_trans (rnum_le _ _ _) (rnum_le _ _ _))))))⟩
theorem wr_ent : WR getE entW EntOk where
  ok := fun h => getE_ok h
  enc := fun rest h => getE_enc h rest
def rdRest : Rdr (List api_Entry) := rdRow (rnum 64) getE
theorem wr_rest : WR rdRest (rowW entW) (fun xs => (xs.length : Int) ≤ 64 ∧ ∀ x ∈ xs, EntOk x) := wr_row (by decide) shr_ent wr_ent
def big : Int := 549755813888
def finS (at_ : Int) (m : api_Machine × Bool) (q : List api_Entry × List UInt8 × Bool) : api_State × Bool :=
  if m.2 = true ∧ q.2.2 = false ∧ q.2.1 = [] ∧ at_ + (q.1.length : Int) ≤ big then (⟨at_, m.1, q.1⟩, true) else (zstate, false)
/-- What stands behind the sum, as a state. -/
def decX (x : List UInt8) : api_State × Bool :=
  let a := rnum big x false
  let p := rbytes 1048576 a.2.1 a.2.2
  finS a.1 (decMa p.1) (rdRest p.2.1 p.2.2)
def decS (b : List UInt8) : api_State × Bool := match unsealB b with | some x => decX x | none => (zstate, false)
/-- A state that may be. -/
structure OkS (s : api_State) : Prop where
  a : 0 ≤ s.At
  b : s.At + (s.Rest.length : Int) ≤ big
  m : OkRd s.Machine
  r : RightM s.Machine
  l : s.Rest.length ≤ 64
  e : ∀ e ∈ s.Rest, EntOk e
theorem ok_smallS {s : api_State} (h : OkS s) : SmallS s := ⟨okRd_small h.m, by have := h.l; omega, fun e he => by
  have := h.e e he
  exact ⟨by have := this.l1; omega, by have := this.l2; omega, by have := this.l3; omega⟩⟩
theorem decX_wire {s : api_State} (h : OkS s) : decX (stW s) = (s, true) := by
  have ha := h.a
  have hb := h.b
  have hl := machW_len (okRd_small h.m)
  have hb2 : big = 549755813888 := rfl
  have hh : held2 1048576 = 1048576 := by decide
  have e1 : rnum big (stW s) false = (s.At, bytesW (machW s.Machine) ++ rowW entW s.Rest, false) := (wr_num (top := big) (by decide)).enc _ ⟨ha, by omega⟩
  have e2 : rbytes 1048576 (bytesW (machW s.Machine) ++ rowW entW s.Rest) false = (machW s.Machine, rowW entW s.Rest, false) := wr_bytes.enc _ (by rw [hh]; omega)
  have e3 : rdRest (rowW entW s.Rest) false = (s.Rest, [], false) := by
    have := wr_rest.enc (x := s.Rest) [] ⟨by have := h.l; omega, h.e⟩
    rwa [List.append_nil] at this
  unfold decX
  rw [e1]
  dsimp only
  rw [e2]
  dsimp only
  rw [e3, decMa_wire h.m h.r]
  unfold finS
  rw [if_pos ⟨rfl, rfl, rfl, hb⟩]
theorem decX_ok {x : List UInt8} (h : (decX x).2 = true) : OkS (decX x).1 ∧ x = stW (decX x).1 := by
  unfold decX at h ⊢
  dsimp only at h ⊢
  obtain ⟨a, ha⟩ : ∃ a, rnum big x false = a := ⟨_, rfl⟩
  rw [ha] at h ⊢
  obtain ⟨p, hp⟩ : ∃ p, rbytes 1048576 a.2.1 a.2.2 = p := ⟨_, rfl⟩
  rw [hp] at h ⊢
  unfold finS at h ⊢
  split
  · rename_i g
    obtain ⟨g1, g2, g3, g4⟩ := g
    obtain ⟨m1, m2, m3⟩ := decMa_ok g1
    obtain ⟨q1, q2, q3⟩ := wr_rest.ok g2
    rw [← hp] at q1
    obtain ⟨r1, r2, r3⟩ := wr_bytes.ok q1
    rw [← ha] at r1
    obtain ⟨_, t2, t3⟩ := (wr_num (top := big) (by decide)).ok r1
    rw [g3, List.append_nil] at q3
    refine ⟨⟨by rw [← ha]; exact t2.1, g4, m1, m2, by have := q2.1; simp only; omega, q2.2⟩, ?_⟩
    rw [ha] at t3
    rw [hp] at r3
    unfold stW
    dsimp only
    rw [← m3, ← q3, ← r3]
    exact t3
  · rename_i g; rw [if_neg g] at h; cases h
theorem decS_seal {s : api_State} (h : OkS s) : decS (sealB (stW s)) = (s, true) := by
  unfold decS
  rw [unsealB_sealB]
  exact decX_wire h
theorem decS_ok {b : List UInt8} (h : (decS b).2 = true) : OkS (decS b).1 ∧ b = sealB (stW (decS b).1) := by
  unfold decS at h ⊢
  cases hu : unsealB b with
  | none => rw [hu] at h; cases h
  | some x =>
    rw [hu] at h
    obtain ⟨h1, h2⟩ := decX_ok h
    refine ⟨h1, ?_⟩
    dsimp only
    rw [← h2]
    exact unsealB_some hu
theorem decX_no {x : List UInt8} (h : (decX x).2 = false) : decX x = (zstate, false) := by
  unfold decX finS at h ⊢
  dsimp only at h ⊢
  split
  · rename_i g; rw [if_pos g] at h; cases h
  · rfl
theorem decS_none {b : List UInt8} (h : unsealB b = none) : decS b = (zstate, false) := by unfold decS; rw [h]
theorem rest_eq1 {K : Nat} (hK : K = 2000000) {b : List UInt8} (hb : b.length ≤ 1000000000) (bad : Bool) (t : Int × List UInt8 × Bool) (ht : t = rnum 64 b bad) (ex : pack_Reader × List api_Entry → Option (api_State × Bool)) :
    blob_read.L1 K t ex K (0, ⟨t.2.1, t.2.2⟩, []) = ex (⟨(rdRest b bad).2.1, (rdRest b bad).2.2⟩, (rdRest b bad).1) := by
  have get : ∀ (b : List UInt8) (bad : Bool), b.length ≤ 1000000000 → mach_GetEntry.f K b bad = some (getE b bad) := fun b bad hb => by
    rw [hK]; exact getEntry_eq hb bad
  have hK2 : 1000 ≤ K := by rw [hK]; decide
  clear hK
  have e64 : held2 64 = 64 := by decide
  obtain ⟨n, g1, g2⟩ := rnum_nat 64 b bad
  have s1 := rnum_le 64 b bad
  rw [← ht] at g1 s1
  rw [e64] at g2
  unfold blob_read.L1
  have l1 := read_iter (rd := getE) (f := fun again v => blob_read.B1 K t ex again v.1 v.2.1 v.2.2) (fun i b bad out => ((i : Int), (⟨b, bad⟩ : pack_Reader), out)) (g := fun b bad out => ex (⟨b, bad⟩, out)) (k := n) (lim := 1000000000) shr_ent (fun ag i b bad out hi hb ho => by
    simp only
    unfold blob_read.B1
    rw [g1, if_pos (by omega), get _ _ hb]
    simp only [Option.bind_some]
    rw [app_eq (by simp only [List.length_singleton]; omega)]
    simp only [Option.bind_some]
    rw [w64_succN (by omega)]) (fun ag b bad out hb ho => by
    simp only
    unfold blob_read.B1
    rw [g1, if_neg (by omega)]) n 0 K t.2.1 t.2.2 [] (by omega) (by omega) (by omega) rfl
  refine Eq.trans l1 ?_
  unfold rdRest rdRow
  rw [← ht, g1, Int.toNat_natCast, List.nil_append]
theorem rdRest_len (b : List UInt8) (bad : Bool) : (rdRest b bad).1.length ≤ 64 := by
  unfold rdRest rdRow
  rw [(readN_len shr_ent _ _ _).1]
  have := rnum_range 64 b bad
  have e64 : held2 64 = 64 := by decide
  omega
/-- What blob's reading gives is a state with its mark; where the mark is false, whatever it be, nothing is told. -/
theorem blobRead_eq {K : Nat} (hK : K = 2000000) {x : List UInt8} (hx : x.length ≤ 1000000000) : ∃ s, blob_read.f K x = some (s, (decX x).2) ∧ ((decX x).2 = true → s = (decX x).1) := by
  have hK2 : 1000 ≤ K := by rw [hK]; decide
  unfold blob_read.f
  rw [read_eq (by omega)]
  simp only [Option.bind_some]
  rw [show (549755813888 : Int) = big from rfl, rnum_eq (by omega) (by omega)]
  simp only [Option.bind_some]
  have s1 := rnum_le big x false
  have r1 := rnum_range big x false
  unfold decX
  dsimp only
  obtain ⟨a, ha⟩ : ∃ a, rnum big x false = a := ⟨_, rfl⟩
  rw [ha] at s1 r1 ⊢
  have s2 := rbytes_le 1048576 a.2.1 a.2.2
  rw [rbytes_eq (by omega) (by omega)]
  simp only [Option.bind_some]
  obtain ⟨p, hp⟩ : ∃ p, rbytes 1048576 a.2.1 a.2.2 = p := ⟨_, rfl⟩
  rw [hp] at s2 ⊢
  rw [machDecode_eq (by omega) (by omega)]
  simp only [Option.bind_some]
  rw [rnum_eq (by omega) (by omega)]
  simp only [Option.bind_some]
  rw [rest_eq1 hK (b := p.2.1) (by omega) p.2.2 _ rfl]
  have hl := rdRest_len p.2.1 p.2.2
  obtain ⟨q, hq⟩ : ∃ q, rdRest p.2.1 p.2.2 = q := ⟨_, rfl⟩
  rw [hq] at hl ⊢
  obtain ⟨m, hm⟩ : ∃ m, decMa p.1 = m := ⟨_, rfl⟩
  rw [hm]
  have hbig : held2 big = 549755813888 := by decide
  rw [hbig] at r1
  have yes : m.2 = true → q.2.2 = false → q.2.1 = [] → a.1 + (q.1.length : Int) ≤ big → finS a.1 m q = (⟨a.1, m.1, q.1⟩, true) := fun g1 g2 g3 g4 => if_pos ⟨g1, g2, g3, g4⟩
  have no : ¬(m.2 = true ∧ q.2.2 = false ∧ q.2.1 = [] ∧ a.1 + (q.1.length : Int) ≤ big) → finS a.1 m q = (zstate, false) := fun g => if_neg g
  have hbv : big = 549755813888 := rfl
  unfold blob_read.J1 pack_Reader_End.f
  dsimp only
  rw [w64_id (by omega), ← hbv]
  by_cases hat : a.1 > big - (q.1.length : Int)
  · rw [if_pos hat, no (by omega)]
    exact ⟨_, rfl, fun h => by cases h⟩
  · rw [if_neg hat]
    cases hm2 : m.2 with
    | false => rw [if_neg (by simp), no (by simp [hm2])]; exact ⟨_, rfl, fun h => by cases h⟩
    | true =>
      rw [if_pos rfl]
      cases hq2 : q.2.2 with
      | true => rw [no (by simp [hq2])]; exact ⟨_, rfl, fun h => by cases h⟩
      | false =>
        by_cases h0 : q.2.1 = []
        · rw [yes hm2 hq2 h0 (by omega), h0]
          exact ⟨_, rfl, fun _ => rfl⟩
        · have : ((q.2.1.length : Int) == 0) = false := by
            have : q.2.1.length ≠ 0 := fun g => h0 (List.eq_nil_of_length_eq_zero g)
            simp only [beq_eq_false_iff_ne]; omega
          rw [no (fun g => h0 g.2.2.1), if_neg (by simp), this]
          exact ⟨_, rfl, fun h => by cases h⟩
theorem blobDecode_eq {K : Nat} (hK : K = 2000000) {b : List UInt8} (hb : b.length < K) (hb2 : b.length ≤ 1000000000) : blob_Decode.f K b = some (decS b) := by
  have hK2 : 1000 ≤ K := by rw [hK]; decide
  unfold blob_Decode.f
  rw [soundK_eq (by omega) hb hb2]
  simp only [Option.bind_some]
  by_cases h4 : 4 ≤ b.length
  · rw [if_pos h4]
    dsimp only
    obtain ⟨s, h1, h2⟩ := blobRead_eq hK (x := b.drop 4) (by rw [List.length_drop]; omega)
    rw [h1]
    simp only [Option.bind_some]
    unfold decS blob_Decode.J1
    cases hu : unsealB b with
    | none => rw [if_neg (by simp), if_pos rfl]; rfl
    | some x =>
      have hx : x = b.drop 4 := by
        unfold unsealB at hu
        split at hu
        · exact (Option.some.inj hu).symm
        · cases hu
      subst hx
      rw [if_pos (by simp)]
      dsimp only
      cases hd : (decX (b.drop 4)).2 with
      | true => rw [if_neg (by simp), h2 hd, ← hd]
      | false => rw [if_pos (by simp), decX_no hd]; rfl
  · rw [if_neg h4]
    obtain ⟨s, h1, h2⟩ := blobRead_eq hK (x := []) (by simp)
    rw [h1]
    simp only [Option.bind_some]
    have hu : unsealB b = none := by unfold unsealB; rw [if_neg (fun h => h4 h.1)]
    rw [if_neg (by simp), decS_none hu]
    rfl
end Go.Gp
