/- What the statements say, of the plain functions. -/
import Derived.Test.YtploijfgnnkddaaGreatDefs
import Derived.Test.YtploijfgnnkddaaGreatLe
import Derived.Test.YtploijfgnnkddaaGreatThInts
import Derived.Test.YtploijfgnnkddaaGreatThPack
import Derived.Test.YtploijfgnnkddaaGreatThMesg
import Derived.Test.YtploijfgnnkddaaGreatThMesg2
import Derived.Test.YtploijfgnnkddaaGreatThMesg3
import Derived.Test.YtploijfgnnkddaaGreatThMesg4
import Derived.Test.YtploijfgnnkddaaGreatThMesg5
import Derived.Test.YtploijfgnnkddaaGreatThMesg6
import Derived.Test.YtploijfgnnkddaaGreatThMsg
import Derived.Test.YtploijfgnnkddaaGreatThMesg7
import Derived.Test.YtploijfgnnkddaaGreatThMesg8
import Derived.Test.YtploijfgnnkddaaGreatThMesgS
import Derived.Test.YtploijfgnnkddaaGreatGpCrc
import Derived.Test.YtploijfgnnkddaaGreatThCrc
import Derived.Test.YtploijfgnnkddaaGreatThFram
import Derived.Test.YtploijfgnnkddaaGreatThPack1
import Derived.Test.YtploijfgnnkddaaGreatThMesg9
import Derived.Test.YtploijfgnnkddaaGreatThMesg10
import Derived.Test.YtploijfgnnkddaaGreatThRows
import Derived.Test.YtploijfgnnkddaaGreatThMach
import Derived.Test.YtploijfgnnkddaaGreatThMach2
import Derived.Test.YtploijfgnnkddaaGreatThMach3
import Derived.Test.YtploijfgnnkddaaGreatThMach4
import Derived.Test.YtploijfgnnkddaaGreatThBlob
import Derived.Test.YtploijfgnnkddaaGreatThBlob2
import Derived.Test.YtploijfgnnkddaaGreatThStep
import Derived.Test.YtploijfgnnkddaaGreatThState
/- A state that comes over, plainly. -/
namespace Go.Gp
open Go
def chunk (b : List UInt8) (m : api_Msg) (p : List UInt8) : api_Msg := ⟨5, m.To, m.From, m.View, 0, 0, false, 0, 0, m.At, (b.length : Int), p, 0, 0, ([] : List Int), ([] : List Int), 0, (⟨0, 0, (⟨0, 0, ([] : List UInt8), ([] : List UInt8), ([] : List UInt8)⟩ : api_Cmd)⟩ : api_Entry)⟩
open Classical in
noncomputable def serveB (b : List UInt8) (m : api_Msg) : api_Msg × Bool := if m.Kind = 4 ∧ (0 ≤ m.At ∧ m.At < (b.length : Int)) ∧ OkM m then (chunk b m ((b.drop m.At.toNat).take 64), true) else (zmsg, false)
theorem serve_eq {K : Nat} (hK : K = 2000000) {b : List UInt8} (hb : b.length ≤ 140737488355328) {m : api_Msg} (hm : Mild m) (ha : i64ok m.At) : xfer_Serve.f K b m = some (serveB b m) := by
  have henc : mesg_Encode.f K m = some (encM m) := by rw [hK]; exact encode_eq hm
  clear hK
  unfold xfer_Serve.f serveB
  rw [part_eq hb ha]
  simp only [Option.bind_some]
  have no : xfer_Serve.J1 K m b (partB b m.At) true = some (zmsg, false) := rfl
  by_cases hk : m.Kind = 4
  · rw [if_pos hk]
    unfold partB at *
    by_cases hp : 0 ≤ m.At ∧ m.At < (b.length : Int)
    · rw [if_pos hp] at no ⊢
      dsimp only
      rw [if_pos rfl, henc]
      simp only [Option.bind_some]
      by_cases ok : OkM m
      · have h4 := wire_pos m
        have e : (((encM m).length : Int) == 0) = false := by
          unfold encM; rw [if_pos ok, beq_eq_false_iff_ne]; omega
        rw [e, if_pos ⟨hk, hp, ok⟩]
        rfl
      · have e : (((encM m).length : Int) == 0) = true := by unfold encM; rw [if_neg ok]; rfl
        rw [e, no, if_neg (fun g => ok g.2.2)]
    · rw [if_neg hp] at no ⊢
      dsimp only
      rw [if_neg (by simp), no, if_neg (fun g => hp g.2.1)]
  · rw [if_neg hk, no, if_neg (fun g => hk g.1)]
def FitsM (v source : Int) (b : List UInt8) (total : Int) (begun done : Bool) (m : api_Msg) : Prop :=
  done = false ∧ m.Kind = 5 ∧ m.View = v ∧ m.From = source ∧ m.At = (b.length : Int) ∧ m.Data.length ≠ 0 ∧ m.At + (m.Data.length : Int) ≤ m.Total ∧ (begun = true → m.Total = total)
instance (v source : Int) (b : List UInt8) (total : Int) (begun done : Bool) (m : api_Msg) : Decidable (FitsM v source b total begun done m) := by unfold FitsM; infer_instance
theorem fits_eq {v me source total : Int} {b : List UInt8} {begun done : Bool} {m : api_Msg} (hb : b.length ≤ 1000000000000) (hd : m.Data.length ≤ 140737488355328) : xfer_Fetch_fits.f v me source b total begun done m = some (decide (FitsM v source b total begun done m)) := by
  have yes : xfer_Fetch_fits.J1 m begun total true = some false := rfl
  have no : ∀ {p : Prop} [Decidable p], ¬p → some false = some (decide p) := fun h => by rw [decide_eq_false h]
  unfold xfer_Fetch_fits.f
  cases done with
  | true => rw [if_pos rfl, yes]; exact no (fun h => by cases h.1)
  | false =>
    rw [if_neg (by simp)]
    by_cases h1 : m.Kind = 5
    · rw [if_pos h1]
      by_cases h2 : m.View = v
      · rw [if_pos h2]
        by_cases h3 : m.From = source
        · rw [if_pos h3]
          by_cases h4 : m.At = (b.length : Int)
          · rw [if_pos h4]
            by_cases h5 : m.Data.length = 0
            · rw [show ((m.Data.length : Int) == 0) = true by rw [h5]; rfl, yes]
              exact no (fun h => h.2.2.2.2.2.1 h5)
            · rw [show ((m.Data.length : Int) == 0) = false by rw [beq_eq_false_iff_ne]; omega]
              unfold xfer_Fetch_fits.J1
              rw [if_neg (by simp), w64_id (by omega)]
              by_cases h6 : m.Total ≥ m.At + (m.Data.length : Int)
              · rw [if_pos h6]
                cases begun with
                | true =>
                  rw [if_pos rfl]
                  by_cases h7 : m.Total = total
                  · rw [show (m.Total == total) = true by simpa using h7, decide_eq_true]; exact ⟨rfl, h1, h2, h3, h4, h5, h6, fun _ => h7⟩
                  · rw [show (m.Total == total) = false by simpa using h7]; exact no (fun h => h7 (h.2.2.2.2.2.2.2 rfl))
                | false => rw [if_neg (by simp), decide_eq_true]; exact ⟨rfl, h1, h2, h3, h4, h5, h6, fun h => by cases h⟩
              · rw [if_neg h6]; exact no (fun h => h6 h.2.2.2.2.2.2.1)
          · rw [if_neg h4, yes]; exact no (fun h => h4 h.2.2.2.2.1)
        · rw [if_neg h3, yes]; exact no (fun h => h3 h.2.2.2.1)
      · rw [if_neg h2, yes]; exact no (fun h => h2 h.2.2.1)
    · rw [if_neg h1, yes]; exact no (fun h => h1 h.2.1)
abbrev FetT := Int × Int × Int × List UInt8 × Int × Bool × Bool
def takeF (f : FetT) (m : api_Msg) : Bool × FetT :=
  if FitsM f.1 f.2.2.1 f.2.2.2.1 f.2.2.2.2.1 f.2.2.2.2.2.1 f.2.2.2.2.2.2 m then
    (if ((f.2.2.2.1 ++ m.Data).length : Int) < m.Total then (true, f.1, f.2.1, f.2.2.1, f.2.2.2.1 ++ m.Data, m.Total, true, f.2.2.2.2.2.2)
     else if (decS (f.2.2.2.1 ++ m.Data)).2 = true then (true, f.1, f.2.1, f.2.2.1, f.2.2.2.1 ++ m.Data, m.Total, true, true)
     else (true, f.1, f.2.1, f.2.2.1, [], 0, false, false))
  else (false, f)
theorem take_eq {K : Nat} (hK : K = 2000000) {f : FetT} {m : api_Msg} (hb : (f.2.2.2.1 ++ m.Data).length < K) (hb2 : (f.2.2.2.1 ++ m.Data).length ≤ 1000000000) : xfer_Fetch_Take.f K f.1 f.2.1 f.2.2.1 f.2.2.2.1 f.2.2.2.2.1 f.2.2.2.2.2.1 f.2.2.2.2.2.2 m = some (takeF f m) := by
  have hl := hb2
  rw [List.length_append] at hl
  unfold xfer_Fetch_Take.f takeF
  rw [fits_eq (by omega) (by omega)]
  simp only [Option.bind_some, decide_eq_true_eq]
  split
  · rw [app_eq (by omega)]
    simp only [Option.bind_some]
    split
    · rfl
    · rw [blobDecode_eq hK hb hb2]
      simp only [Option.bind_some]
      cases hd : (decS (f.2.2.2.1 ++ m.Data)).2 with
      | true => rw [if_pos rfl, if_pos rfl]
      | false => rw [if_neg (by simp), if_neg (by simp)]
  · rfl
def doneF (f : FetT) : api_State × Bool := if f.2.2.2.2.2.2 = true then decS f.2.2.2.1 else (zstate, false)
theorem done_eq {K : Nat} (hK : K = 2000000) {f : FetT} (hb : f.2.2.2.1.length < K) (hb2 : f.2.2.2.1.length ≤ 1000000000) : xfer_Fetch_Done.f K f.1 f.2.1 f.2.2.1 f.2.2.2.1 f.2.2.2.2.1 f.2.2.2.2.2.1 f.2.2.2.2.2.2 = some (doneF f) := by
  unfold xfer_Fetch_Done.f doneF
  split
  · rw [blobDecode_eq hK hb hb2]; rfl
  · rfl
def askM (f : FetT) : api_Msg := ⟨4, f.2.1, f.2.2.1, f.1, 0, 0, false, 0, 0, (f.2.2.2.1.length : Int), 0, ([] : List UInt8), 0, 0, ([] : List Int), ([] : List Int), 0, (⟨0, 0, (⟨0, 0, ([] : List UInt8), ([] : List UInt8), ([] : List UInt8)⟩ : api_Cmd)⟩ : api_Entry)⟩
theorem ask_eq (f : FetT) : xfer_Fetch_Ask.f f.1 f.2.1 f.2.2.1 f.2.2.2.1 f.2.2.2.2.1 f.2.2.2.2.2.1 f.2.2.2.2.2.2 = some (askM f) := rfl
theorem mild0 {m : api_Msg} (h1 : m.Have = []) (h2 : m.Need = []) (h3 : m.Entry = zent) : Mild m := ⟨by simp [h1], by simp [h2], by simp [h3, zent], by simp [h3, zent], by simp [h3, zent]⟩
theorem ok4 {m : api_Msg} (hk : m.Kind = 4) (hf : 0 ≤ m.From ∧ m.From ≤ 6) (ht : 0 ≤ m.To ∧ m.To ≤ 6) (hv : 0 ≤ m.View ∧ m.View ≤ far) (ha : 0 ≤ m.At ∧ m.At ≤ far) : OkM m := ⟨hf, ht, hv, .inr (.inr (.inr (.inr (.inl ⟨hk, ha⟩))))⟩
def fet0 : FetT := (8, 1, 2, [], 0, false, false)
theorem new_eq : xfer_New.f 8 1 2 = some fet0 := rfl
def s7 : api_State := ⟨7, (⟨(⟨([] : List UInt8), ([] : List (List UInt8)), ([] : List Int), ([] : List api_Pair)⟩ : api_Objects), ([] : List api_Last)⟩ : api_Machine), ([] : List api_Entry)⟩
theorem s7_ok : OkS s7 := okS_of 7 (by omega) _ (by simp) (by simp)
theorem stW7 : (stW s7).length = 8 := by
  have hm : machW s7.Machine = [0, 0, 0, 0, 0] := machW0
  have h7 : held2 7 = 7 := by decide
  unfold stW
  rw [hm]
  unfold numW bytesW rowW s7
  simp only [List.length_cons, List.length_nil, List.map_nil, List.flatten_nil, List.append_nil, h7]
  rw [enc1 (n := 7) (by decide), enc1 (n := 0 + 1 + 1 + 1 + 1 + 1) (by decide), enc1 (n := 0) (by decide)]
  rfl
theorem awake_xfer {K : Nat} (hK : K = 2000000) : hocketlaw19_awake.f K = some () := by
  have hK2 : 1000 ≤ K := by rw [hK]; decide
  have hl : (sealB (stW s7)).length = 12 := by rw [sealB_len, stW7]
  have hfar : far = 1099511627776 := rfl
  unfold hocketlaw19_awake.f
  change Option.bind (hocketref15_Encode.f K s7) _ = _
  rw [blobEncode1_eq hK (ok_smallS s7_ok)]
  simp only [Option.bind_some]
  obtain ⟨t, ht⟩ : ∃ t, sealB (stW s7) = t := ⟨_, rfl⟩
  have hdec := decS_seal s7_ok
  rw [ht] at hl hdec ⊢
  rw [new_eq]
  simp only [Option.bind_some]
  rw [ask_eq fet0]
  simp only [Option.bind_some]
  have hok : OkM (askM fet0) := ok4 rfl (by simp [askM, fet0]) (by simp [askM, fet0]) (by simp [askM, fet0]; omega) (by simp [askM, fet0]; omega)
  have hmild : Mild (askM fet0) := mild0 rfl rfl rfl
  rw [serve_eq hK (by omega) hmild (by unfold i64ok; simp [askM, fet0])]
  simp only [Option.bind_some]
  have hs : serveB t (askM fet0) = (chunk t (askM fet0) t, true) := by
    unfold serveB
    rw [if_pos ⟨rfl, ⟨by simp [askM, fet0], by simp [askM, fet0]; omega⟩, hok⟩]
    have : (askM fet0).At.toNat = 0 := rfl
    rw [this, List.drop_zero, List.take_of_length_le (by omega)]
  rw [hs]
  dsimp only
  rw [done_eq hK (f := fet0) (by simp [fet0]; omega) (by simp [fet0])]
  simp only [Option.bind_some]
  rw [take_eq hK (f := fet0) (by simp [fet0, chunk]; omega) (by simp [fet0, chunk]; omega)]
  simp only [Option.bind_some]
  have hfit : FitsM 8 2 [] 0 false false (chunk t (askM fet0) t) := ⟨rfl, rfl, rfl, rfl, rfl, show t.length ≠ 0 by omega, by simp [chunk, askM, fet0], fun h => by cases h⟩
  have htk : takeF fet0 (chunk t (askM fet0) t) = (true, 8, 1, 2, t, (t.length : Int), true, true) := by
    have e : (chunk t (askM fet0) t).Data = t := rfl
    have e2 : (chunk t (askM fet0) t).Total = (t.length : Int) := rfl
    generalize chunk t (askM fet0) t = c at *
    unfold takeF fet0
    dsimp only
    rw [if_pos hfit, List.nil_append, e, e2, if_neg (by omega), hdec, if_pos rfl]
  rw [htk]
  dsimp only
  rw [take_eq hK (f := (8, 1, 2, t, (t.length : Int), true, true)) (by simp [chunk]; omega) (by simp [chunk]; omega)]
  simp only [Option.bind_some]
  have hno : takeF (8, 1, 2, t, (t.length : Int), true, true) (chunk t (askM fet0) t) = (false, 8, 1, 2, t, (t.length : Int), true, true) := if_neg (fun h => by cases h.1)
  rw [hno]
  dsimp only
  rw [done_eq hK (f := (8, 1, 2, t, (t.length : Int), true, true)) (by simp only; omega) (by simp only; omega)]
  simp only [Option.bind_some]
  have hdn : doneF (8, 1, 2, t, (t.length : Int), true, true) = (s7, true) := by unfold doneF; rw [if_pos rfl]; exact hdec
  have hsame : hocketref11_Same.f K (askM fet0) ⟨4, 1, 2, 8, 0, 0, false, 0, 0, 0, 0, ([] : List UInt8), 0, 0, ([] : List Int), ([] : List Int), 0, (⟨0, 0, (⟨0, 0, ([] : List UInt8), ([] : List UInt8), ([] : List UInt8)⟩ : api_Cmd)⟩ : api_Entry)⟩ = some true := by
    have h1 := same_eq (a := askM fet0) (b := ⟨4, 1, 2, 8, 0, 0, false, 0, 0, 0, 0, ([] : List UInt8), 0, 0, ([] : List Int), ([] : List Int), 0, (⟨0, 0, (⟨0, 0, ([] : List UInt8), ([] : List UInt8), ([] : List UInt8)⟩ : api_Cmd)⟩ : api_Entry)⟩) (by simp [askM]) (by simp [askM])
    rw [← hK] at h1
    rw [h1]
    congr 1
  rw [hdn, hsame]
  simp only [Option.bind_some]
  have hd0 : doneF fet0 = (zstate, false) := rfl
  have k1 : (chunk t (askM fet0) t).Kind = 5 := rfl
  have k2 : (chunk t (askM fet0) t).From = 2 := rfl
  have k3 : (chunk t (askM fet0) t).To = 1 := rfl
  have k4 : (chunk t (askM fet0) t).Total = (t.length : Int) := rfl
  have k5 : s7.At = 7 := rfl
  rw [hd0, if_pos trivial, if_pos trivial, if_pos k1, if_pos k2, if_pos k3, if_pos k4, if_neg (by simp), if_pos trivial, if_neg (by simp), if_pos trivial, if_pos k5]
end Go.Gp
