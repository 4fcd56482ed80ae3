/- What the statements say, of the plain functions. -/
import Derived.Test.YtdjkljabfdcbnaaDefs
import Derived.Test.YtdjkljabfdcbnaaLe
import Derived.Test.YtdjkljabfdcbnaaThInts
import Derived.Test.YtdjkljabfdcbnaaThPack
import Derived.Test.YtdjkljabfdcbnaaThMesg
import Derived.Test.YtdjkljabfdcbnaaThMesg2
import Derived.Test.YtdjkljabfdcbnaaThMesg3
import Derived.Test.YtdjkljabfdcbnaaThMesg4
import Derived.Test.YtdjkljabfdcbnaaThMesg5
import Derived.Test.YtdjkljabfdcbnaaThMesg6
import Derived.Test.YtdjkljabfdcbnaaThMsg
import Derived.Test.YtdjkljabfdcbnaaThMesg7
import Derived.Test.YtdjkljabfdcbnaaThMesg8
import Derived.Test.YtdjkljabfdcbnaaGpCrc
import Derived.Test.YtdjkljabfdcbnaaThCrc
import Derived.Test.YtdjkljabfdcbnaaThFram
import Derived.Test.YtdjkljabfdcbnaaThPack1
import Derived.Test.YtdjkljabfdcbnaaThMesg9
import Derived.Test.YtdjkljabfdcbnaaThMesg10
import Derived.Test.YtdjkljabfdcbnaaThFram2
/- What the document fixes of frames. -/
namespace Go.Gp
open Go
theorem awake_fram : hocketlaw12_awake.f 3000 = some () := by
  obtain ⟨m, hm⟩ : ∃ m : api_Msg, m = ⟨1, 1, 2, 9, 0, 0, false, 0, 0, 0, 0, ([] : List UInt8), 0, 0, ([] : List Int), ([] : List Int), 0, (⟨0, 0, (⟨0, 0, ([] : List UInt8), ([] : List UInt8), ([] : List UInt8)⟩ : api_Cmd)⟩ : api_Entry)⟩ := ⟨_, rfl⟩
  have ok : OkM m := by subst hm; exact ⟨by simp, by simp, by unfold far; simp, .inl rfl⟩
  have hc : canM m = m := by subst hm; rfl
  have hz : ¬OkM zmsg := fun h => by
    obtain ⟨_, _, _, g⟩ := h
    simp [zmsg] at g
  have hlen : (wire m).length = 4 := by
    have e : tailW m = [] := by subst hm; rfl
    unfold wire
    rw [e]
    subst hm
    rw [numsL_cons, numsL_cons, numsL_cons, numsL_cons, numsL_nil]
    have en : ∀ n : Nat, n < 128 → (enc (held2 (n : Int))).length = 1 := fun n hn => by rw [held2_nat n (by omega), enc_lt hn]; rfl
    have e1 := en 1 (by omega)
    have e2 := en 2 (by omega)
    have e9 := en 9 (by omega)
    simp only [List.length_append, List.length_nil]
    have c1 : ((1 : Nat) : Int) = 1 := rfl
    have c2 : ((2 : Nat) : Int) = 2 := rfl
    have c9 : ((9 : Nat) : Int) = 9 := rfl
    rw [c1] at e1
    rw [c2] at e2
    rw [c9] at e9
    omega
  unfold hocketlaw12_awake.f
  rw [← hm, wrap_eq (ok_mild ok hc)]
  unfold wrapM
  rw [if_pos ok]
  simp only [Option.bind_some]
  have hs : (sealB (wire m)).length = 8 := by rw [sealB_len, hlen]
  rw [open_eq (by omega), openM_wrap ok]
  simp only [Option.bind_some]
  rw [show w64 (Int.tdiv ((sealB (wire m)).length : Int) 2) = 4 by rw [hs]; rfl, cut_eq ⟨by omega, by omega, by omega⟩]
  simp only [Option.bind_some]
  rw [show List.drop (Int.toNat 0) (List.take (Int.toNat 4) (sealB (wire m))) = (sealB (wire m)).take 4 from rfl, open_eq (by rw [List.length_take]; omega)]
  simp only [Option.bind_some]
  rw [if_pos (by omega), if_pos trivial, hc, ok_same ok hc]
  simp only [Option.bind_some]
  rw [if_pos (by simp), if_neg (by rw [openM_take ok (by omega)]; simp)]
  rw [show fram_Wrap.f 3000 (⟨0, 0, 0, 0, 0, 0, false, 0, 0, 0, 0, ([] : List UInt8), 0, 0, ([] : List Int), ([] : List Int), 0, (⟨0, 0, (⟨0, 0, ([] : List UInt8), ([] : List UInt8), ([] : List UInt8)⟩ : api_Cmd)⟩ : api_Entry)⟩ : api_Msg) = some [] from (wrap_eq (m := zmsg) ⟨by simp [zmsg], by simp [zmsg], by simp [zmsg], by simp [zmsg], by simp [zmsg]⟩).trans (by unfold wrapM; rw [if_neg hz])]
  simp only [Option.bind_some]
  rw [if_pos (by simp)]
theorem sat_awake : Sat (hocketlaw12_awake.f 3000) (fun _ => True) := ⟨(), awake_fram, trivial⟩
theorem fin_awake : Sat (Option.bind (hocketlaw12_awake.f 3000) fun _ => some ()) (fun _ => True) := sat_b awake_fram (sat_r trivial)
/-- A message of numbers, wrapped. -/
theorem wrap_num {m : api_Msg} (h : OkM m) (hc : canM m = m) : fram_Wrap.f 3000 m = some (sealB (wire m)) := by
  rw [wrap_eq (ok_mild h hc)]
  unfold wrapM
  rw [if_pos h]
theorem seal_len {m : api_Msg} (h : OkM m) : 8 ≤ (sealB (wire m)).length ∧ (sealB (wire m)).length ≤ 224 := by
  have h1 := wire_ok_len h
  have h2 := wire_pos m
  rw [sealB_len]
  omega
end Go.Gp
