/- What the statements say, of the plain functions. -/
import Derived.Test.YtploijfgnnkddaaGreatDefs
import Derived.Test.YtploijfgnnkddaaGreatLe
import Derived.Test.YtploijfgnnkddaaGreatThInts
import Derived.Test.YtploijfgnnkddaaGreatThPack
import Derived.Test.YtploijfgnnkddaaGreatThMesg
import Derived.Test.YtploijfgnnkddaaGreatThMesg2
import Derived.Test.YtploijfgnnkddaaGreatThMesg3
import Derived.Test.YtploijfgnnkddaaGreatThMesg4
import Derived.Test.YtploijfgnnkddaaGreatThMesg5
import Derived.Test.YtploijfgnnkddaaGreatThMesg6
import Derived.Test.YtploijfgnnkddaaGreatThMsg
import Derived.Test.YtploijfgnnkddaaGreatThMesg7
import Derived.Test.YtploijfgnnkddaaGreatThMesg8
import Derived.Test.YtploijfgnnkddaaGreatThMesgS
import Derived.Test.YtploijfgnnkddaaGreatGpCrc
import Derived.Test.YtploijfgnnkddaaGreatThCrc
import Derived.Test.YtploijfgnnkddaaGreatThFram
import Derived.Test.YtploijfgnnkddaaGreatThPack1
import Derived.Test.YtploijfgnnkddaaGreatThMesg9
import Derived.Test.YtploijfgnnkddaaGreatThMesg10
import Derived.Test.YtploijfgnnkddaaGreatThRows
import Derived.Test.YtploijfgnnkddaaGreatThMach
import Derived.Test.YtploijfgnnkddaaGreatThMach2
import Derived.Test.YtploijfgnnkddaaGreatThMach3
import Derived.Test.YtploijfgnnkddaaGreatThMach4
import Derived.Test.YtploijfgnnkddaaGreatThBlob
import Derived.Test.YtploijfgnnkddaaGreatThBlob2
import Derived.Test.YtploijfgnnkddaaGreatThStep
/- States of numbers; what is cut, or turned. -/
namespace Go.Gp
open Go
theorem state_ok31 {K : Nat} (hK : K = 2000000) (l : List Int) (a r : Int) : Sat (hocketlaw15_State.f K l a r) (fun s => OkS s ∧ s.Rest.length ≤ 31) := by
  have hK2 : 1000 ≤ K := by rw [hK]; decide
  clear hK
  unfold hocketlaw15_State.f
  refine sat_bs (machine_ok (by omega) l) (fun m hm => ?_)
  have b1 := band_lt r 31 5 rfl (by decide)
  have b2 := band_lt a 65535 16 rfl (by decide)
  obtain ⟨m1, m2⟩ := okM_rd hm
  refine sat_loop (fun v : Int × List api_Entry => (31 - v.1).toNat) (fun v => ∃ i : Nat, v.1 = (i : Int) ∧ i ≤ 31 ∧ v.2.length = i ∧ ∀ e ∈ v.2, EntOk e) ?_ K _ ⟨0, rfl, by omega, rfl, by simp⟩ (by simp only; omega)
  rintro ⟨j, out⟩ ⟨i, g1, g2, g3, g4⟩ ag hag
  simp only at g1 g3 g4
  subst g1
  show Sat (hocketlaw15_State.B1 K r a _ ag (i : Int) out) _
  unfold hocketlaw15_State.B1 hocketlaw15_State.J1
  refine sat_if (fun hlt => ?_) (fun hge => ?_)
  · have hy : w64 ((i : Int) + 20) = ((i + 20 : Nat) : Int) := by rw [w64_id (by omega)]; omega
    rw [hy]
    obtain ⟨e, e1, e2, e3, e4⟩ := entry_num (w64 (shr .i64 a (wu64 (band .i64 (i : Int) 7)) + w64 ((i : Int) * 977))) (y := ((i + 20 : Nat) : Int)) (by omega)
    refine sat_b e1 (sat_b (app_eq (by simp only [List.length_singleton]; omega)) ?_)
    rw [w64_succN (by omega)]
    refine hag _ ⟨i + 1, rfl, by omega, by simp; omega, fun x hx => ?_⟩ (by simp only; omega)
    rcases List.mem_append.1 hx with hx | hx
    · exact g4 x hx
    · obtain rfl := List.mem_singleton.1 hx
      obtain ⟨c1, c2, c3, c4, c5⟩ := e2
      refine ⟨by simp only; omega, by simp only; omega, by simp only; omega, ?_, by simp only; omega, by simp only; omega, by simp only; omega⟩
      simp only
      rw [mx_eq]
      omega
  · refine sat_r ⟨⟨by simp only; omega, ?_, m1, m2, by simp only; omega, g4⟩, by simp only; omega⟩
    unfold big
    simp only
    omega
def rdSt : Rdr (Int × List UInt8 × List api_Entry) := rd2 Prod.mk (rnum big) (rd2 Prod.mk (rbytes 1048576) rdRest)
theorem stW_lenR {s : api_State} (h : OkS s) : (stW s).length ≤ 1950 + 170 * s.Rest.length := by
  obtain ⟨⟨⟨r1, ⟨q1, q2⟩, ⟨l1, l2⟩, p1, p2⟩, t1, t2⟩, _⟩ := And.intro h.m h.r
  have b0 := bytesW_len r1 (by omega)
  have b1 := rowW_len (w := bytesW) (xs := s.Machine.Objects.Queue) (B := 25) (fun x hx => bytesW_len (q2 x hx) (by omega)) (by omega)
  have b2 := rowW_len (w := numW) (xs := s.Machine.Objects.Lock) (B := 9) (fun x _ => numW_len x) (by omega)
  have b3 := rowW_len (w := pairW) (xs := s.Machine.Objects.Map) (B := 42) (fun x hx => by
    obtain ⟨g1, g2⟩ := p2 x hx
    have := bytesW_len g1 (by omega)
    have := bytesW_len g2 (by omega)
    unfold pairW
    rw [List.length_append]; omega) (by omega)
  have b4 := rowW_len (w := lastW) (xs := s.Machine.Table) (B := 61) (fun x hx => by
    obtain ⟨_, _, _, _, g⟩ := t2 x hx
    have := bytesW_len g (by omega)
    have h2 := numW_len x.Sess
    have h3 := numW_len x.Seq
    have h4 := numW_len x.Result.Err
    have h5 := numW_len (w64 (x.Result.N + 1))
    unfold lastW
    simp only [List.length_append]; omega) (by omega)
  have hm : (machW s.Machine).length ≤ 1900 := by
    unfold machW
    simp only [List.length_append]
    omega
  have c1 := bytesW_len hm (by omega)
  have c2 := rowW_len (w := entW) (xs := s.Rest) (B := 170) (fun e he => by
    obtain ⟨_, _, _, _, h1, h2, h3⟩ := h.e e he
    have l4 := numsL_len [e.Sess, e.Seq, e.Cmd.Kind, e.Cmd.Who]
    simp only [List.length_cons, List.length_nil] at l4
    have g5 := enc_len9 (n := e.Cmd.Key.length) (by omega)
    have g6 := enc_len9 (n := e.Cmd.Val.length) (by omega)
    have g7 := enc_len9 (n := e.Cmd.Old.length) (by omega)
    unfold entW cmdW
    simp only [List.length_append]
    omega) (by have := h.l; omega)
  have c3 := numW_len s.At
  have := h.l
  unfold stW
  simp only [List.length_append]
  omega
def s3 : api_State := ⟨3, (⟨(⟨([] : List UInt8), ([] : List (List UInt8)), ([] : List Int), ([] : List api_Pair)⟩ : api_Objects), ([] : List api_Last)⟩ : api_Machine), ([(⟨1, 1, (⟨1, 0, ([] : List UInt8), ([] : List UInt8), ([] : List UInt8)⟩ : api_Cmd)⟩ : api_Entry)] : List api_Entry)⟩
theorem okS_of (n : Int) (hn : 0 ≤ n ∧ n ≤ 1000) (l : List api_Entry) (hl : l.length ≤ 64) (he : ∀ e ∈ l, EntOk e) : OkS ⟨n, zmach, l⟩ := by
  obtain ⟨h1, h2⟩ := okM_rd zmach_ok
  exact ⟨hn.1, by unfold big; simp only; omega, h1, h2, hl, he⟩
theorem enc1 {n : Nat} (h : n < 128) : enc n = [UInt8.ofNat n] := enc_lt h
theorem machW0 : machW zmach = [0, 0, 0, 0, 0] := by
  unfold machW bytesW rowW zmach
  simp only [List.length_nil, List.map_nil, List.flatten_nil, List.append_nil]
  rw [enc1 (by decide)]
  rfl
end Go.Gp
