/- What the statements say, of the plain functions. -/
import Derived.Test.YtploijfgnnkddaaDefs
import Derived.Test.YtploijfgnnkddaaLe
import Derived.Test.YtploijfgnnkddaaThInts
import Derived.Test.YtploijfgnnkddaaThPack
import Derived.Test.YtploijfgnnkddaaThMesg
import Derived.Test.YtploijfgnnkddaaThMesg2
import Derived.Test.YtploijfgnnkddaaThMesg3
import Derived.Test.YtploijfgnnkddaaThMesg4
import Derived.Test.YtploijfgnnkddaaThMesg5
import Derived.Test.YtploijfgnnkddaaThMesg6
import Derived.Test.YtploijfgnnkddaaThMsg
import Derived.Test.YtploijfgnnkddaaThMesg7
import Derived.Test.YtploijfgnnkddaaThMesg8
import Derived.Test.YtploijfgnnkddaaThMesgS
import Derived.Test.YtploijfgnnkddaaGpCrc
import Derived.Test.YtploijfgnnkddaaThCrc
import Derived.Test.YtploijfgnnkddaaThFram
import Derived.Test.YtploijfgnnkddaaThPack1
import Derived.Test.YtploijfgnnkddaaThMesg9
import Derived.Test.YtploijfgnnkddaaThMesg10
import Derived.Test.YtploijfgnnkddaaThRows
import Derived.Test.YtploijfgnnkddaaThMach
import Derived.Test.YtploijfgnnkddaaThMach2
import Derived.Test.YtploijfgnnkddaaThMach3
import Derived.Test.YtploijfgnnkddaaThMach4
import Derived.Test.YtploijfgnnkddaaThBlob
import Derived.Test.YtploijfgnnkddaaThBlob2
import Derived.Test.YtploijfgnnkddaaThStep
import Derived.Test.YtploijfgnnkddaaThState
/- The plain law of bytes of states that may not be. -/
namespace Go.Gp
open Go
def s5 : api_State := ⟨5, (⟨(⟨([] : List UInt8), ([] : List (List UInt8)), ([] : List Int), ([] : List api_Pair)⟩ : api_Objects), ([] : List api_Last)⟩ : api_Machine), ([(⟨1, 1, (⟨1, 0, ([] : List UInt8), ([] : List UInt8), ([] : List UInt8)⟩ : api_Cmd)⟩ : api_Entry)] : List api_Entry)⟩
theorem s5_ok : OkS s5 := okS_of 5 (by omega) _ (by simp) (by simp [e1ok])
theorem stW5 : stW s5 = [5, 5, 0, 0, 0, 0, 0, 1, 1, 1, 1, 0, 0, 0, 0] := by
  have hm : machW s5.Machine = [0, 0, 0, 0, 0] := machW0
  have h0 : held2 0 = 0 := by decide
  have h1 : held2 1 = 1 := by decide
  have h5 : held2 5 = 5 := by decide
  unfold stW
  rw [hm]
  unfold numW bytesW rowW entW cmdW s5
  simp only [List.length_cons, List.length_nil, List.map_cons, List.map_nil, List.flatten_cons, List.flatten_nil, List.append_nil, numsL_cons, numsL_nil, h0, h1, h5]
  rw [enc1 (n := 5) (by decide), enc1 (n := 0 + 1) (by decide), enc1 (n := 0) (by decide)]
  rfl
def formsL : List An_b_ok := [⟨[5, 5, 0, 0, 0, 0, 0, 1, 1, 1, 1, 0, 0, 0, 0], true⟩, ⟨[5, 5, 0, 0, 0, 0, 0, 1, 1, 1, 1, 0, 0, 0], false⟩, ⟨[5, 5, 0, 0, 0, 0, 0, 1, 1, 1, 1, 0, 0, 0, 0, 0], false⟩, ⟨[133, 0, 5, 0, 0, 0, 0, 0, 1, 1, 1, 1, 0, 0, 0, 0], false⟩,
  ⟨[6, 5, 0, 0, 0, 0, 0, 1, 1, 1, 1, 0, 0, 0, 0], true⟩, ⟨[5, 0, 0, 0, 0, 0, 1, 1, 1, 1, 0, 0, 0, 0], false⟩, ⟨[], false⟩, ⟨[5, 5, 0, 0, 0, 0, 0, 0], true⟩, ⟨[5, 5, 0, 0, 0, 0, 0, 65], false⟩]
theorem forms_ok : ∀ q ∈ formsL, (decX q.b).2 = q.ok ∧ (decS q.b).2 = false ∧ q.b.length ≤ 20 := by decide +kernel
def formsB (K : Nat) (x0 : Int) (L : List An_b_ok) : Option (Unit) :=
  Option.bind (rem (band .i64 x0 255) (L.length : Int)) fun t_492 =>
  Option.bind (ix L t_492) fun t_493 =>
  Option.bind (hocketref1_Four.f K t_493.b) fun t_503 =>
  Option.bind (blob_Decode.f K t_503) fun t_511 =>
  Option.bind (blob_Decode.f K t_493.b) fun t_542 =>
  if t_511.2 = t_493.ok then (
  if t_542.2 = true then (
  none)
  else (
  Option.bind (hocketlaw15_awake.f K) fun t_576 =>
  some ()))
  else (
  none)
theorem hocketlaw15_BlobForms.pure (x0 : Int) {o0 : Prop} (_ : o0) : ∃ K r, hocketlaw15_BlobForms.f K x0 = some r := by
  obtain ⟨K, hK⟩ : ∃ K, K = 2000000 := ⟨_, rfl⟩
  have hK2 : 1000 ≤ K := by rw [hK]; decide
  refine ⟨K, sat_pure ?_⟩
  unfold hocketlaw15_BlobForms.f
  change Sat (Option.bind (blob_Encode.f K s5) _) _
  refine sat_b (blobEncode_eq hK (ok_smallS s5_ok)) ?_
  have hl : (sealB (stW s5)).length = 19 := by rw [sealB_len, stW5]; rfl
  have hd : (sealB (stW s5)).drop 4 = [5, 5, 0, 0, 0, 0, 0, 1, 1, 1, 1, 0, 0, 0, 0] := by
    unfold sealB
    rw [List.drop_left' (le4_len _), stW5]
  generalize sealB (stW s5) = t at *
  refine sat_f (by omega) (sat_b (v := [5, 5, 0, 0, 0, 0, 0, 1, 1, 1, 1, 0, 0, 0, 0]) ?_ ?_)
  · rw [cut_eq ⟨by omega, by omega, by omega⟩, Int.toNat_natCast, List.take_length]
    exact congrArg some hd
  refine sat_b rfl (sat_b rfl (sat_b rfl (sat_b rfl (sat_b rfl (sat_b rfl (sat_b rfl (sat_b rfl (sat_b rfl (sat_b rfl (sat_b rfl (sat_b rfl (sat_b rfl (sat_b rfl ?_)))))))))))))
  change Sat (formsB K x0 formsL) _
  unfold formsB
  have hb := band_lt x0 255 8 rfl (by decide)
  have h9 : formsL.length = 9 := rfl
  rw [h9]
  have hr := tmod_nn (x := band .i64 x0 255) (y := ((9 : Nat) : Int)) hb.1 (by decide)
  refine sat_b (rem_eq (by decide)) ?_
  obtain ⟨q, q1, q2⟩ := ix_all (xs := formsL) (R := fun q => (decX q.b).2 = q.ok ∧ (decS q.b).2 = false ∧ q.b.length ≤ 20) hr.1 (by rw [h9]; exact hr.2) forms_ok
  obtain ⟨q2, q3, q4⟩ := q2
  refine sat_b q1 (sat_b (four_eq (by omega) (by omega) (by omega)) (sat_b (blobDecode_eq hK (by rw [sealB_len]; omega) (by rw [sealB_len]; omega)) (sat_b (blobDecode_eq hK (by omega) (by omega)) ?_)))
  have hs : decS (sealB q.b) = decX q.b := by unfold decS; rw [unsealB_sealB]
  rw [hs]
  exact sat_t q2 (sat_f (by rw [q3]; simp) (fin_blob hK))
end Go.Gp
