/- The functions that the law reaches, told plainly. -/
import Derived.Test.YtabedbggldnkhaaLa
namespace Go.Gp
set_option linter.unusedVariables false
structure api_Cmd where
  Kind : Int
  Who : Int
  Key : List UInt8
  Val : List UInt8
  Old : List UInt8
  deriving DecidableEq
structure api_Entry where
  Sess : Int
  Seq : Int
  Cmd : api_Cmd
  deriving DecidableEq
structure api_Msg where
  Kind : Int
  From : Int
  To : Int
  View : Int
  Inst : Int
  Len : Int
  Has : Bool
  Members : Int
  Source : Int
  At : Int
  Total : Int
  Data : List UInt8
  Hop : Int
  Seq : Int
  Have : List Int
  Need : List Int
  Index : Int
  Entry : api_Entry
  deriving DecidableEq
structure gath_Gather where
  n : Int
  id : Int
  v : Int
  l : List api_Msg
  come : Int
  ready : Int
  commit : api_Msg
  is : Bool
  deriving DecidableEq
structure An_l_mask_source_n_ok where
  l : List api_Msg
  mask : Int
  source : Int
  n : Int
  ok : Bool
  deriving DecidableEq
structure An_t_place_whole_fresh_has_missing_seq_safe_room_have_need_again where
  t : api_Msg
  place : Int
  whole : Int
  fresh : Int
  has : List Int
  missing : List Int
  seq : Int
  safe : Int
  room : Int
  have_ : List Int
  need : List Int
  again : List Int
  deriving DecidableEq
structure hocketref15_Gather where
  n : Int
  id : Int
  v : Int
  l : List api_Msg
  commit : api_Msg
  sure : Bool
  ready : Int
  deriving DecidableEq
def ok_api_Cmd (x : api_Cmd) : Prop := i64ok x.Kind ∧ i64ok x.Who ∧ (x.Key.length ≤ 140737488351232 ∧ ∀ z ∈ x.Key, True) ∧ (x.Val.length ≤ 140737488351232 ∧ ∀ z ∈ x.Val, True) ∧ (x.Old.length ≤ 140737488351232 ∧ ∀ z ∈ x.Old, True)
def ok_api_Entry (x : api_Entry) : Prop := i64ok x.Sess ∧ i64ok x.Seq ∧ ok_api_Cmd x.Cmd
def ok_api_Msg (x : api_Msg) : Prop := i64ok x.Kind ∧ i64ok x.From ∧ i64ok x.To ∧ i64ok x.View ∧ i64ok x.Inst ∧ i64ok x.Len ∧ True ∧ i64ok x.Members ∧ i64ok x.Source ∧ i64ok x.At ∧ i64ok x.Total ∧ (x.Data.length ≤ 140737488351232 ∧ ∀ z ∈ x.Data, True) ∧ i64ok x.Hop ∧ i64ok x.Seq ∧ (x.Have.length ≤ 140737488351232 ∧ ∀ z ∈ x.Have, i64ok z) ∧ (x.Need.length ≤ 140737488351232 ∧ ∀ z ∈ x.Need, i64ok z) ∧ i64ok x.Index ∧ ok_api_Entry x.Entry
def ok_gath_Gather (x : gath_Gather) : Prop := i64ok x.n ∧ i64ok x.id ∧ i64ok x.v ∧ (x.l.length ≤ 140737488351232 ∧ ∀ z ∈ x.l, ok_api_Msg z) ∧ i64ok x.come ∧ i64ok x.ready ∧ ok_api_Msg x.commit ∧ True
def ok_An_l_mask_source_n_ok (x : An_l_mask_source_n_ok) : Prop := (x.l.length ≤ 140737488351232 ∧ ∀ z ∈ x.l, ok_api_Msg z) ∧ i64ok x.mask ∧ i64ok x.source ∧ i64ok x.n ∧ True
def ok_An_t_place_whole_fresh_has_missing_seq_safe_room_have_need_again (x : An_t_place_whole_fresh_has_missing_seq_safe_room_have_need_again) : Prop := ok_api_Msg x.t ∧ i64ok x.place ∧ i64ok x.whole ∧ i64ok x.fresh ∧ (x.has.length ≤ 140737488351232 ∧ ∀ z ∈ x.has, i64ok z) ∧ (x.missing.length ≤ 140737488351232 ∧ ∀ z ∈ x.missing, i64ok z) ∧ i64ok x.seq ∧ i64ok x.safe ∧ i64ok x.room ∧ (x.have_.length ≤ 140737488351232 ∧ ∀ z ∈ x.have_, i64ok z) ∧ (x.need.length ≤ 140737488351232 ∧ ∀ z ∈ x.need, i64ok z) ∧ (x.again.length ≤ 140737488351232 ∧ ∀ z ∈ x.again, i64ok z)
def ok_hocketref15_Gather (x : hocketref15_Gather) : Prop := i64ok x.n ∧ i64ok x.id ∧ i64ok x.v ∧ (x.l.length ≤ 140737488351232 ∧ ∀ z ∈ x.l, ok_api_Msg z) ∧ ok_api_Msg x.commit ∧ True ∧ i64ok x.ready
def bits_OnesCount32.f (x0 : UInt32) : Option (Int) :=
  Option.bind (ix ([0, 1, 1, 2, 1, 2, 2, 3, 1, 2, 2, 3, 2, 3, 3, 4, 1, 2, 2, 3, 2, 3, 3, 4, 2, 3, 3, 4, 3, 4, 4, 5, 1, 2, 2, 3, 2, 3, 3, 4, 2, 3, 3, 4, 3, 4, 4, 5, 2, 3, 3, 4, 3, 4, 4, 5, 3, 4, 4, 5, 4, 5, 5, 6, 1, 2, 2, 3, 2, 3, 3, 4, 2, 3, 3, 4, 3, 4, 4, 5, 2, 3, 3, 4, 3, 4, 4, 5, 3, 4, 4, 5, 4, 5, 5, 6, 2, 3, 3, 4, 3, 4, 4, 5, 3, 4, 4, 5, 4, 5, 5, 6, 3, 4, 4, 5, 4, 5, 5, 6, 4, 5, 5, 6, 5, 6, 6, 7, 1, 2, 2, 3, 2, 3, 3, 4, 2, 3, 3, 4, 3, 4, 4, 5, 2, 3, 3, 4, 3, 4, 4, 5, 3, 4, 4, 5, 4, 5, 5, 6, 2, 3, 3, 4, 3, 4, 4, 5, 3, 4, 4, 5, 4, 5, 5, 6, 3, 4, 4, 5, 4, 5, 5, 6, 4, 5, 5, 6, 5, 6, 6, 7, 2, 3, 3, 4, 3, 4, 4, 5, 3, 4, 4, 5, 4, 5, 5, 6, 3, 4, 4, 5, 4, 5, 5, 6, 4, 5, 5, 6, 5, 6, 6, 7, 3, 4, 4, 5, 4, 5, 5, 6, 4, 5, 5, 6, 5, 6, 6, 7, 4, 5, 5, 6, 5, 6, 6, 7, 5, 6, 6, 7, 6, 7, 7, 8] : List UInt8) ((toU32 (shr .u32 (x0.toNat : Int) 24)).toNat : Int)) fun t_3 =>
  Option.bind (ix ([0, 1, 1, 2, 1, 2, 2, 3, 1, 2, 2, 3, 2, 3, 3, 4, 1, 2, 2, 3, 2, 3, 3, 4, 2, 3, 3, 4, 3, 4, 4, 5, 1, 2, 2, 3, 2, 3, 3, 4, 2, 3, 3, 4, 3, 4, 4, 5, 2, 3, 3, 4, 3, 4, 4, 5, 3, 4, 4, 5, 4, 5, 5, 6, 1, 2, 2, 3, 2, 3, 3, 4, 2, 3, 3, 4, 3, 4, 4, 5, 2, 3, 3, 4, 3, 4, 4, 5, 3, 4, 4, 5, 4, 5, 5, 6, 2, 3, 3, 4, 3, 4, 4, 5, 3, 4, 4, 5, 4, 5, 5, 6, 3, 4, 4, 5, 4, 5, 5, 6, 4, 5, 5, 6, 5, 6, 6, 7, 1, 2, 2, 3, 2, 3, 3, 4, 2, 3, 3, 4, 3, 4, 4, 5, 2, 3, 3, 4, 3, 4, 4, 5, 3, 4, 4, 5, 4, 5, 5, 6, 2, 3, 3, 4, 3, 4, 4, 5, 3, 4, 4, 5, 4, 5, 5, 6, 3, 4, 4, 5, 4, 5, 5, 6, 4, 5, 5, 6, 5, 6, 6, 7, 2, 3, 3, 4, 3, 4, 4, 5, 3, 4, 4, 5, 4, 5, 5, 6, 3, 4, 4, 5, 4, 5, 5, 6, 4, 5, 5, 6, 5, 6, 6, 7, 3, 4, 4, 5, 4, 5, 5, 6, 4, 5, 5, 6, 5, 6, 6, 7, 4, 5, 5, 6, 5, 6, 6, 7, 5, 6, 6, 7, 6, 7, 7, 8] : List UInt8) (((toU32 (shr .u32 (x0.toNat : Int) 16)) &&& (255 : UInt32)).toNat : Int)) fun t_4 =>
  Option.bind (ix ([0, 1, 1, 2, 1, 2, 2, 3, 1, 2, 2, 3, 2, 3, 3, 4, 1, 2, 2, 3, 2, 3, 3, 4, 2, 3, 3, 4, 3, 4, 4, 5, 1, 2, 2, 3, 2, 3, 3, 4, 2, 3, 3, 4, 3, 4, 4, 5, 2, 3, 3, 4, 3, 4, 4, 5, 3, 4, 4, 5, 4, 5, 5, 6, 1, 2, 2, 3, 2, 3, 3, 4, 2, 3, 3, 4, 3, 4, 4, 5, 2, 3, 3, 4, 3, 4, 4, 5, 3, 4, 4, 5, 4, 5, 5, 6, 2, 3, 3, 4, 3, 4, 4, 5, 3, 4, 4, 5, 4, 5, 5, 6, 3, 4, 4, 5, 4, 5, 5, 6, 4, 5, 5, 6, 5, 6, 6, 7, 1, 2, 2, 3, 2, 3, 3, 4, 2, 3, 3, 4, 3, 4, 4, 5, 2, 3, 3, 4, 3, 4, 4, 5, 3, 4, 4, 5, 4, 5, 5, 6, 2, 3, 3, 4, 3, 4, 4, 5, 3, 4, 4, 5, 4, 5, 5, 6, 3, 4, 4, 5, 4, 5, 5, 6, 4, 5, 5, 6, 5, 6, 6, 7, 2, 3, 3, 4, 3, 4, 4, 5, 3, 4, 4, 5, 4, 5, 5, 6, 3, 4, 4, 5, 4, 5, 5, 6, 4, 5, 5, 6, 5, 6, 6, 7, 3, 4, 4, 5, 4, 5, 5, 6, 4, 5, 5, 6, 5, 6, 6, 7, 4, 5, 5, 6, 5, 6, 6, 7, 5, 6, 6, 7, 6, 7, 7, 8] : List UInt8) (((toU32 (shr .u32 (x0.toNat : Int) 8)) &&& (255 : UInt32)).toNat : Int)) fun t_5 =>
  Option.bind (ix ([0, 1, 1, 2, 1, 2, 2, 3, 1, 2, 2, 3, 2, 3, 3, 4, 1, 2, 2, 3, 2, 3, 3, 4, 2, 3, 3, 4, 3, 4, 4, 5, 1, 2, 2, 3, 2, 3, 3, 4, 2, 3, 3, 4, 3, 4, 4, 5, 2, 3, 3, 4, 3, 4, 4, 5, 3, 4, 4, 5, 4, 5, 5, 6, 1, 2, 2, 3, 2, 3, 3, 4, 2, 3, 3, 4, 3, 4, 4, 5, 2, 3, 3, 4, 3, 4, 4, 5, 3, 4, 4, 5, 4, 5, 5, 6, 2, 3, 3, 4, 3, 4, 4, 5, 3, 4, 4, 5, 4, 5, 5, 6, 3, 4, 4, 5, 4, 5, 5, 6, 4, 5, 5, 6, 5, 6, 6, 7, 1, 2, 2, 3, 2, 3, 3, 4, 2, 3, 3, 4, 3, 4, 4, 5, 2, 3, 3, 4, 3, 4, 4, 5, 3, 4, 4, 5, 4, 5, 5, 6, 2, 3, 3, 4, 3, 4, 4, 5, 3, 4, 4, 5, 4, 5, 5, 6, 3, 4, 4, 5, 4, 5, 5, 6, 4, 5, 5, 6, 5, 6, 6, 7, 2, 3, 3, 4, 3, 4, 4, 5, 3, 4, 4, 5, 4, 5, 5, 6, 3, 4, 4, 5, 4, 5, 5, 6, 4, 5, 5, 6, 5, 6, 6, 7, 3, 4, 4, 5, 4, 5, 5, 6, 4, 5, 5, 6, 5, 6, 6, 7, 4, 5, 5, 6, 5, 6, 6, 7, 5, 6, 6, 7, 6, 7, 7, 8] : List UInt8) ((x0 &&& (255 : UInt32)).toNat : Int)) fun t_6 =>
  some ((toU8 (((toU8 (((toU8 ((t_3.toNat : Int) + (t_4.toNat : Int))).toNat : Int) + (t_5.toNat : Int))).toNat : Int) + (t_6.toNat : Int))).toNat : Int)

def bits_OnesCount64.f (x0 : Int) : Option (Int) :=
  some (band .i64 (w64 (wu64 ((wu64 ((wu64 ((band .u64 (wu64 ((shr .u64 (wu64 ((band .u64 (shr .u64 (wu64 ((band .u64 (shr .u64 x0 1) 6148914691236517205) + (band .u64 x0 6148914691236517205))) 2) 3689348814741910323) + (band .u64 (wu64 ((band .u64 (shr .u64 x0 1) 6148914691236517205) + (band .u64 x0 6148914691236517205))) 3689348814741910323))) 4) + (wu64 ((band .u64 (shr .u64 (wu64 ((band .u64 (shr .u64 x0 1) 6148914691236517205) + (band .u64 x0 6148914691236517205))) 2) 3689348814741910323) + (band .u64 (wu64 ((band .u64 (shr .u64 x0 1) 6148914691236517205) + (band .u64 x0 6148914691236517205))) 3689348814741910323))))) 1085102592571150095) + (shr .u64 (band .u64 (wu64 ((shr .u64 (wu64 ((band .u64 (shr .u64 (wu64 ((band .u64 (shr .u64 x0 1) 6148914691236517205) + (band .u64 x0 6148914691236517205))) 2) 3689348814741910323) + (band .u64 (wu64 ((band .u64 (shr .u64 x0 1) 6148914691236517205) + (band .u64 x0 6148914691236517205))) 3689348814741910323))) 4) + (wu64 ((band .u64 (shr .u64 (wu64 ((band .u64 (shr .u64 x0 1) 6148914691236517205) + (band .u64 x0 6148914691236517205))) 2) 3689348814741910323) + (band .u64 (wu64 ((band .u64 (shr .u64 x0 1) 6148914691236517205) + (band .u64 x0 6148914691236517205))) 3689348814741910323))))) 1085102592571150095) 8))) + (shr .u64 (wu64 ((band .u64 (wu64 ((shr .u64 (wu64 ((band .u64 (shr .u64 (wu64 ((band .u64 (shr .u64 x0 1) 6148914691236517205) + (band .u64 x0 6148914691236517205))) 2) 3689348814741910323) + (band .u64 (wu64 ((band .u64 (shr .u64 x0 1) 6148914691236517205) + (band .u64 x0 6148914691236517205))) 3689348814741910323))) 4) + (wu64 ((band .u64 (shr .u64 (wu64 ((band .u64 (shr .u64 x0 1) 6148914691236517205) + (band .u64 x0 6148914691236517205))) 2) 3689348814741910323) + (band .u64 (wu64 ((band .u64 (shr .u64 x0 1) 6148914691236517205) + (band .u64 x0 6148914691236517205))) 3689348814741910323))))) 1085102592571150095) + (shr .u64 (band .u64 (wu64 ((shr .u64 (wu64 ((band .u64 (shr .u64 (wu64 ((band .u64 (shr .u64 x0 1) 6148914691236517205) + (band .u64 x0 6148914691236517205))) 2) 3689348814741910323) + (band .u64 (wu64 ((band .u64 (shr .u64 x0 1) 6148914691236517205) + (band .u64 x0 6148914691236517205))) 3689348814741910323))) 4) + (wu64 ((band .u64 (shr .u64 (wu64 ((band .u64 (shr .u64 x0 1) 6148914691236517205) + (band .u64 x0 6148914691236517205))) 2) 3689348814741910323) + (band .u64 (wu64 ((band .u64 (shr .u64 x0 1) 6148914691236517205) + (band .u64 x0 6148914691236517205))) 3689348814741910323))))) 1085102592571150095) 8))) 16))) + (shr .u64 (wu64 ((wu64 ((band .u64 (wu64 ((shr .u64 (wu64 ((band .u64 (shr .u64 (wu64 ((band .u64 (shr .u64 x0 1) 6148914691236517205) + (band .u64 x0 6148914691236517205))) 2) 3689348814741910323) + (band .u64 (wu64 ((band .u64 (shr .u64 x0 1) 6148914691236517205) + (band .u64 x0 6148914691236517205))) 3689348814741910323))) 4) + (wu64 ((band .u64 (shr .u64 (wu64 ((band .u64 (shr .u64 x0 1) 6148914691236517205) + (band .u64 x0 6148914691236517205))) 2) 3689348814741910323) + (band .u64 (wu64 ((band .u64 (shr .u64 x0 1) 6148914691236517205) + (band .u64 x0 6148914691236517205))) 3689348814741910323))))) 1085102592571150095) + (shr .u64 (band .u64 (wu64 ((shr .u64 (wu64 ((band .u64 (shr .u64 (wu64 ((band .u64 (shr .u64 x0 1) 6148914691236517205) + (band .u64 x0 6148914691236517205))) 2) 3689348814741910323) + (band .u64 (wu64 ((band .u64 (shr .u64 x0 1) 6148914691236517205) + (band .u64 x0 6148914691236517205))) 3689348814741910323))) 4) + (wu64 ((band .u64 (shr .u64 (wu64 ((band .u64 (shr .u64 x0 1) 6148914691236517205) + (band .u64 x0 6148914691236517205))) 2) 3689348814741910323) + (band .u64 (wu64 ((band .u64 (shr .u64 x0 1) 6148914691236517205) + (band .u64 x0 6148914691236517205))) 3689348814741910323))))) 1085102592571150095) 8))) + (shr .u64 (wu64 ((band .u64 (wu64 ((shr .u64 (wu64 ((band .u64 (shr .u64 (wu64 ((band .u64 (shr .u64 x0 1) 6148914691236517205) + (band .u64 x0 6148914691236517205))) 2) 3689348814741910323) + (band .u64 (wu64 ((band .u64 (shr .u64 x0 1) 6148914691236517205) + (band .u64 x0 6148914691236517205))) 3689348814741910323))) 4) + (wu64 ((band .u64 (shr .u64 (wu64 ((band .u64 (shr .u64 x0 1) 6148914691236517205) + (band .u64 x0 6148914691236517205))) 2) 3689348814741910323) + (band .u64 (wu64 ((band .u64 (shr .u64 x0 1) 6148914691236517205) + (band .u64 x0 6148914691236517205))) 3689348814741910323))))) 1085102592571150095) + (shr .u64 (band .u64 (wu64 ((shr .u64 (wu64 ((band .u64 (shr .u64 (wu64 ((band .u64 (shr .u64 x0 1) 6148914691236517205) + (band .u64 x0 6148914691236517205))) 2) 3689348814741910323) + (band .u64 (wu64 ((band .u64 (shr .u64 x0 1) 6148914691236517205) + (band .u64 x0 6148914691236517205))) 3689348814741910323))) 4) + (wu64 ((band .u64 (shr .u64 (wu64 ((band .u64 (shr .u64 x0 1) 6148914691236517205) + (band .u64 x0 6148914691236517205))) 2) 3689348814741910323) + (band .u64 (wu64 ((band .u64 (shr .u64 x0 1) 6148914691236517205) + (band .u64 x0 6148914691236517205))) 3689348814741910323))))) 1085102592571150095) 8))) 16))) 32)))) 127)

def bits_OnesCount.f (x0 : Int) : Option (Int) :=
  Option.bind (bits_OnesCount64.f x0) fun t_2 =>
  some t_2

def view_Most.f (x0 : Int) (x1 : Int) : Option (Bool) :=
  if x0 ≥ 0 then (
  Option.bind (must (0 ≤ (mn (mx x1 1) 7))) fun u_3 =>
  if x0 < (shl .i64 1 (mn (mx x1 1) 7)) then (
  Option.bind (bits_OnesCount.f (wu64 x0)) fun t_5 =>
  some (decide ((w64 (2 * t_5)) > (mn (mx x1 1) 7))))
  else (
  some false))
  else (
  some false)

def view_firsts.J1 (K : Nat) (x_3 : List api_Msg) : Option ((List api_Msg)) :=
  some x_3
def view_firsts.J2 (K : Nat) (again_18 : (List api_Msg) × Int × Int → Option ((List api_Msg))) (x_11 : List api_Msg) (x_16 : Int) (x_17 : Int) (t_23 : api_Msg) (x_46 : Bool) : Option ((List api_Msg)) :=
  if x_46 = true then (
  again_18 (x_11, x_16, w64 (x_17 + 1)))
  else (
  Option.bind (must (0 ≤ t_23.From)) fun u_50 =>
  Option.bind (app 488671834567 x_11 ([t_23] : List api_Msg)) fun t_57 =>
  again_18 (t_57, bor .i64 x_16 (shl .i64 1 t_23.From), w64 (x_17 + 1)))
def view_firsts.B1 (K : Nat) (x0 : List api_Msg) (x1 : Int) (ex_18 : (List api_Msg) → Option ((List api_Msg))) (again_18 : (List api_Msg) × Int × Int → Option ((List api_Msg))) (x_11 : List api_Msg) (x_16 : Int) (x_17 : Int) : Option ((List api_Msg)) :=
  if x_17 < (x0.length : Int) then (
  Option.bind (ix x0 x_17) fun t_23 =>
  if t_23.Kind = 2 then (
  if t_23.From < 0 then (
  view_firsts.J2 K again_18 x_11 x_16 x_17 t_23 true)
  else (
  if t_23.From ≥ (mn (mx x1 1) 7) then (
  view_firsts.J2 K again_18 x_11 x_16 x_17 t_23 true)
  else (
  Option.bind (must (0 ≤ t_23.From)) fun u_66 =>
  view_firsts.J2 K again_18 x_11 x_16 x_17 t_23 ((band .i64 (shr .i64 x_16 t_23.From) 1) == 1))))
  else (
  view_firsts.J2 K again_18 x_11 x_16 x_17 t_23 true))
  else (
  ex_18 x_11)
def view_firsts.L1 (K : Nat) (x0 : List api_Msg) (x1 : Int) (ex_18 : (List api_Msg) → Option ((List api_Msg))) : Nat → (List api_Msg) × Int × Int → Option ((List api_Msg)) :=
  iter fun again v => view_firsts.B1 K x0 x1 ex_18 again v.1 v.2.1 v.2.2
def view_firsts.f (K : Nat) (x0 : List api_Msg) (x1 : Int) : Option ((List api_Msg)) :=
  view_firsts.L1 K x0 x1 (fun v => view_firsts.J1 K v) K (([] : List api_Msg), 0, 0)

def view_better.f (x0 : api_Msg) (x1 : api_Msg) : Option (Bool) :=
  if x0.Len > x1.Len then (
  some true)
  else (
  if x0.Len = x1.Len then (
  some (decide (x0.From < x1.From)))
  else (
  some false))

def view_Choose.J3 (K : Nat) (x_12 : Int) (x_21 : api_Msg) (x_39 : Bool) : Option (Int × Int × Int × Bool) :=
  if x_39 = true then (
  some (0, 0, 0, false))
  else (
  some (x_12, x_21.From, x_21.Len, true))
def view_Choose.J2 (K : Nat) (x_12 : Int) (x1 : Int) (x_20 : Bool) (x_21 : api_Msg) : Option (Int × Int × Int × Bool) :=
  if x_20 = true then (
  Option.bind (view_Most.f x_12 x1) fun t_46 =>
  view_Choose.J3 K x_12 x_21 (!t_46))
  else (
  view_Choose.J3 K x_12 x_21 true)
def view_Choose.J4 (K : Nat) (again_66 : Bool × Int × api_Msg → Option (Int × Int × Int × Bool)) (x_52 : Int) (t_71 : api_Msg) (x_51 : Bool) (x_53 : api_Msg) (x_93 : Bool) : Option (Int × Int × Int × Bool) :=
  if x_93 = true then (
  again_66 (true, w64 (x_52 + 1), t_71))
  else (
  again_66 (x_51, w64 (x_52 + 1), x_53))
def view_Choose.B1 (K : Nat) (t_1 : (List api_Msg)) (x_13 : Int) (ex_66 : Bool × api_Msg → Option (Int × Int × Int × Bool)) (again_66 : Bool × Int × api_Msg → Option (Int × Int × Int × Bool)) (x_51 : Bool) (x_52 : Int) (x_53 : api_Msg) : Option (Int × Int × Int × Bool) :=
  if x_52 < (t_1.length : Int) then (
  Option.bind (ix t_1 x_52) fun t_71 =>
  if t_71.Has = true then (
  if t_71.Inst = x_13 then (
  if x_51 = true then (
  Option.bind (view_better.f t_71 x_53) fun t_101 =>
  view_Choose.J4 K again_66 x_52 t_71 x_51 x_53 t_101)
  else (
  view_Choose.J4 K again_66 x_52 t_71 x_51 x_53 true))
  else (
  view_Choose.J4 K again_66 x_52 t_71 x_51 x_53 false))
  else (
  view_Choose.J4 K again_66 x_52 t_71 x_51 x_53 false))
  else (
  ex_66 (x_51, x_53))
def view_Choose.L1 (K : Nat) (t_1 : (List api_Msg)) (x_13 : Int) (ex_66 : Bool × api_Msg → Option (Int × Int × Int × Bool)) : Nat → Bool × Int × api_Msg → Option (Int × Int × Int × Bool) :=
  iter fun again v => view_Choose.B1 K t_1 x_13 ex_66 again v.1 v.2.1 v.2.2
def view_Choose.J1 (K : Nat) (t_1 : (List api_Msg)) (x1 : Int) (x_12 : Int) (x_13 : Int) : Option (Int × Int × Int × Bool) :=
  view_Choose.L1 K t_1 x_13 (fun v => view_Choose.J2 K x_12 x1 v.1 v.2) K (false, 0, (⟨0, 0, 0, 0, 0, 0, false, 0, 0, 0, 0, ([] : List UInt8), 0, 0, ([] : List Int), ([] : List Int), 0, (⟨0, 0, (⟨0, 0, ([] : List UInt8), ([] : List UInt8), ([] : List UInt8)⟩ : api_Cmd)⟩ : api_Entry)⟩ : api_Msg))
def view_Choose.J5 (K : Nat) (again_109 : Int × Int × Int → Option (Int × Int × Int × Bool)) (x_106 : Int) (t_114 : api_Msg) (x_108 : Int) (x_107 : Int) (x_137 : Bool) : Option (Int × Int × Int × Bool) :=
  if x_137 = true then (
  again_109 (bor .i64 x_106 (shl .i64 1 t_114.From), t_114.Inst, w64 (x_108 + 1)))
  else (
  again_109 (bor .i64 x_106 (shl .i64 1 t_114.From), x_107, w64 (x_108 + 1)))
def view_Choose.B2 (K : Nat) (t_1 : (List api_Msg)) (ex_109 : Int × Int → Option (Int × Int × Int × Bool)) (again_109 : Int × Int × Int → Option (Int × Int × Int × Bool)) (x_106 : Int) (x_107 : Int) (x_108 : Int) : Option (Int × Int × Int × Bool) :=
  if x_108 < (t_1.length : Int) then (
  Option.bind (ix t_1 x_108) fun t_114 =>
  Option.bind (must (0 ≤ t_114.From)) fun u_134 =>
  if x_108 = 0 then (
  view_Choose.J5 K again_109 x_106 t_114 x_108 x_107 true)
  else (
  view_Choose.J5 K again_109 x_106 t_114 x_108 x_107 (decide (t_114.Inst > x_107))))
  else (
  ex_109 (x_106, x_107))
def view_Choose.L2 (K : Nat) (t_1 : (List api_Msg)) (ex_109 : Int × Int → Option (Int × Int × Int × Bool)) : Nat → Int × Int × Int → Option (Int × Int × Int × Bool) :=
  iter fun again v => view_Choose.B2 K t_1 ex_109 again v.1 v.2.1 v.2.2
def view_Choose.f (K : Nat) (x0 : List api_Msg) (x1 : Int) : Option (Int × Int × Int × Bool) :=
  Option.bind (view_firsts.f K x0 x1) fun t_1 =>
  view_Choose.L2 K t_1 (fun v => view_Choose.J1 K t_1 x1 v.1 v.2) K (0, 0, 0)

def view_Members.J1 (K : Nat) (x_3 : List Int) : Option ((List Int)) :=
  some x_3
def view_Members.B1 (K : Nat) (x0 : Int) (ex_17 : (List Int) → Option ((List Int))) (again_17 : (List Int) × Int → Option ((List Int))) (x_11 : List Int) (x_16 : Int) : Option ((List Int)) :=
  if x_16 < 7 then (
  Option.bind (must (0 ≤ x_16)) fun u_23 =>
  if (band .i64 (shr .i64 x0 x_16) 1) = 1 then (
  Option.bind (app 17592186044416 x_11 ([x_16] : List Int)) fun t_31 =>
  again_17 (t_31, w64 (x_16 + 1)))
  else (
  again_17 (x_11, w64 (x_16 + 1))))
  else (
  ex_17 x_11)
def view_Members.L1 (K : Nat) (x0 : Int) (ex_17 : (List Int) → Option ((List Int))) : Nat → (List Int) × Int → Option ((List Int)) :=
  iter fun again v => view_Members.B1 K x0 ex_17 again v.1 v.2
def view_Members.f (K : Nat) (x0 : Int) : Option ((List Int)) :=
  view_Members.L1 K x0 (fun v => view_Members.J1 K v) K (([] : List Int), 0)

def view_node.f (x0 : Int) : Option (Int) :=
  some (mn (mx x0 0) 6)

def view_Limit.f (x0 : Int) : Option (Int) :=
  Option.bind (view_node.f x0) fun t_1 =>
  some (w64 (400 + (w64 (40 * t_1))))

def view_Next.f (x0 : Int) (x1 : Int) : Option (Int) :=
  Option.bind (view_node.f x1) fun t_1 =>
  some (w64 ((w64 (8 * (w64 ((w64 (Int.tdiv (mn (mx x0 0) 549755813888) 8)) + 1)))) + t_1))

def view_Who.f (x0 : Int) : Option (Int) :=
  some (Int.tmod (mx x0 0) 8)

def hocketref1_SameInts.J1 (K : Nat) : Option (Bool) :=
  some true
def hocketref1_SameInts.B1 (K : Nat) (x0 : List Int) (x1 : List Int) (ex_9 : Unit → Option (Bool)) (again_9 : Int → Option (Bool)) (x_8 : Int) : Option (Bool) :=
  if x_8 < (x0.length : Int) then (
  Option.bind (ix x0 x_8) fun t_16 =>
  Option.bind (ix x1 x_8) fun t_21 =>
  if t_16 = t_21 then (
  again_9 (w64 (x_8 + 1)))
  else (
  some false))
  else (
  ex_9 ())
def hocketref1_SameInts.L1 (K : Nat) (x0 : List Int) (x1 : List Int) (ex_9 : Unit → Option (Bool)) : Nat → Int → Option (Bool) :=
  iter fun again v => hocketref1_SameInts.B1 K x0 x1 ex_9 again v
def hocketref1_SameInts.f (K : Nat) (x0 : List Int) (x1 : List Int) : Option (Bool) :=
  if (x0.length : Int) = (x1.length : Int) then (
  hocketref1_SameInts.L1 K x0 x1 (fun v => hocketref1_SameInts.J1 K) K 0)
  else (
  some false)

def view_After.J1 (K : Nat) (t_1 : (List Int)) : Option (Int) :=
  if (t_1.length : Int) = 0 then (
  some (-1))
  else (
  Option.bind (ix t_1 0) fun t_15 =>
  some t_15)
def view_After.B1 (K : Nat) (t_1 : (List Int)) (x1 : Int) (ex_22 : Unit → Option (Int)) (again_22 : Int → Option (Int)) (x_21 : Int) : Option (Int) :=
  if x_21 < (t_1.length : Int) then (
  Option.bind (ix t_1 x_21) fun t_27 =>
  if t_27 > x1 then (
  some t_27)
  else (
  again_22 (w64 (x_21 + 1))))
  else (
  ex_22 ())
def view_After.L1 (K : Nat) (t_1 : (List Int)) (x1 : Int) (ex_22 : Unit → Option (Int)) : Nat → Int → Option (Int) :=
  iter fun again v => view_After.B1 K t_1 x1 ex_22 again v
def view_After.f (K : Nat) (x0 : Int) (x1 : Int) : Option (Int) :=
  Option.bind (view_Members.f K x0) fun t_1 =>
  view_After.L1 K t_1 x1 (fun v => view_After.J1 K t_1) K 0

def hocketlaw14_awake.f (K : Nat) : Option (Unit) :=
  Option.bind (view_Choose.f K ([(⟨2, 0, 0, 0, 8, 5, false, 0, 0, 0, 0, ([] : List UInt8), 0, 0, ([] : List Int), ([] : List Int), 0, (⟨0, 0, (⟨0, 0, ([] : List UInt8), ([] : List UInt8), ([] : List UInt8)⟩ : api_Cmd)⟩ : api_Entry)⟩ : api_Msg), (⟨2, 1, 0, 0, 8, 3, true, 0, 0, 0, 0, ([] : List UInt8), 0, 0, ([] : List Int), ([] : List Int), 0, (⟨0, 0, (⟨0, 0, ([] : List UInt8), ([] : List UInt8), ([] : List UInt8)⟩ : api_Cmd)⟩ : api_Entry)⟩ : api_Msg), (⟨2, 2, 0, 0, 0, 9, true, 0, 0, 0, 0, ([] : List UInt8), 0, 0, ([] : List Int), ([] : List Int), 0, (⟨0, 0, (⟨0, 0, ([] : List UInt8), ([] : List UInt8), ([] : List UInt8)⟩ : api_Cmd)⟩ : api_Entry)⟩ : api_Msg)] : List api_Msg) 5) fun t_7 =>
  Option.bind (cut ([(⟨2, 0, 0, 0, 8, 5, false, 0, 0, 0, 0, ([] : List UInt8), 0, 0, ([] : List Int), ([] : List Int), 0, (⟨0, 0, (⟨0, 0, ([] : List UInt8), ([] : List UInt8), ([] : List UInt8)⟩ : api_Cmd)⟩ : api_Entry)⟩ : api_Msg), (⟨2, 1, 0, 0, 8, 3, true, 0, 0, 0, 0, ([] : List UInt8), 0, 0, ([] : List Int), ([] : List Int), 0, (⟨0, 0, (⟨0, 0, ([] : List UInt8), ([] : List UInt8), ([] : List UInt8)⟩ : api_Cmd)⟩ : api_Entry)⟩ : api_Msg), (⟨2, 2, 0, 0, 0, 9, true, 0, 0, 0, 0, ([] : List UInt8), 0, 0, ([] : List Int), ([] : List Int), 0, (⟨0, 0, (⟨0, 0, ([] : List UInt8), ([] : List UInt8), ([] : List UInt8)⟩ : api_Cmd)⟩ : api_Entry)⟩ : api_Msg)] : List api_Msg) 0 2) fun t_12 =>
  Option.bind (view_Choose.f K t_12 5) fun t_15 =>
  Option.bind (view_Next.f 0 3) fun t_20 =>
  if t_20 = 11 then (
  Option.bind (view_Next.f 11 2) fun t_25 =>
  if t_25 = 18 then (
  Option.bind (view_Who.f 18) fun t_30 =>
  if t_30 = 2 then (
  Option.bind (view_Members.f K 11) fun t_35 =>
  Option.bind (hocketref1_SameInts.f K t_35 ([0, 1, 3] : List Int)) fun t_49 =>
  if t_49 = true then (
  Option.bind (view_Most.f 3 4) fun t_54 =>
  if t_54 = true then (
  none)
  else (
  Option.bind (view_Most.f 7 5) fun t_59 =>
  if t_59 = true then (
  Option.bind (view_After.f K 11 1) fun t_64 =>
  if t_64 = 3 then (
  Option.bind (view_After.f K 11 3) fun t_69 =>
  if t_69 = 0 then (
  Option.bind (view_After.f K 0 0) fun t_74 =>
  if t_74 = (-1) then (
  if t_7.2.2.2 = true then (
  if t_7.1 = 7 then (
  if t_7.2.1 = 1 then (
  if t_7.2.2.1 = 3 then (
  if t_15.2.2.2 = true then (
  none)
  else (
  Option.bind (view_Limit.f 1) fun t_84 =>
  if t_84 = 440 then (
  some ())
  else (
  none)))
  else (
  none))
  else (
  none))
  else (
  none))
  else (
  none))
  else (
  none))
  else (
  none))
  else (
  none))
  else (
  none)))
  else (
  none))
  else (
  none))
  else (
  none))
  else (
  none)

def hocketlaw14_ViewCounts.J2 (K : Nat) (x0 : Int) (x1 : Int) (x_3 : Int) : Option (Unit) :=
  Option.bind (view_Most.f (band .i64 x0 255) (w64 ((Int.tmod (band .i64 x1 255) 7) + 1))) fun t_19 =>
  if (w64 (2 * x_3)) > (w64 ((Int.tmod (band .i64 x1 255) 7) + 1)) then (
  if t_19 = ((shr .i64 (band .i64 x0 255) (wu64 (w64 ((Int.tmod (band .i64 x1 255) 7) + 1)))) == 0) then (
  Option.bind (view_Most.f 0 (w64 ((Int.tmod (band .i64 x1 255) 7) + 1))) fun t_25 =>
  if t_25 = true then (
  none)
  else (
  Option.bind (view_Most.f (w64 ((shl .i64 1 (wu64 (w64 ((Int.tmod (band .i64 x1 255) 7) + 1)))) - 1)) (w64 ((Int.tmod (band .i64 x1 255) 7) + 1))) fun t_30 =>
  if t_30 = true then (
  Option.bind (view_Limit.f (w64 ((w64 ((Int.tmod (band .i64 x1 255) 7) + 1)) - 1))) fun t_35 =>
  if t_35 = (w64 (400 + (w64 (40 * (w64 ((w64 ((Int.tmod (band .i64 x1 255) 7) + 1)) - 1)))))) then (
  Option.bind (hocketlaw14_awake.f K) fun t_40 =>
  some ())
  else (
  none))
  else (
  none)))
  else (
  none))
  else (
  if t_19 = false then (
  Option.bind (view_Most.f 0 (w64 ((Int.tmod (band .i64 x1 255) 7) + 1))) fun t_45 =>
  if t_45 = true then (
  none)
  else (
  Option.bind (view_Most.f (w64 ((shl .i64 1 (wu64 (w64 ((Int.tmod (band .i64 x1 255) 7) + 1)))) - 1)) (w64 ((Int.tmod (band .i64 x1 255) 7) + 1))) fun t_50 =>
  if t_50 = true then (
  Option.bind (view_Limit.f (w64 ((w64 ((Int.tmod (band .i64 x1 255) 7) + 1)) - 1))) fun t_55 =>
  if t_55 = (w64 (400 + (w64 (40 * (w64 ((w64 ((Int.tmod (band .i64 x1 255) 7) + 1)) - 1)))))) then (
  Option.bind (hocketlaw14_awake.f K) fun t_60 =>
  some ())
  else (
  none))
  else (
  none)))
  else (
  none))
def hocketlaw14_ViewCounts.B1 (K : Nat) (t_6 : (List Int)) (x0 : Int) (ex_66 : Unit → Option (Unit)) (again_66 : Int → Option (Unit)) (x_65 : Int) : Option (Unit) :=
  if x_65 < (t_6.length : Int) then (
  Option.bind (ix t_6 x_65) fun t_73 =>
  if (band .i64 (shr .i64 (band .i64 x0 255) (wu64 t_73)) 1) = 0 then (
  none)
  else (
  if x_65 > 0 then (
  Option.bind (ix t_6 (w64 (x_65 - 1))) fun t_80 =>
  Option.bind (ix t_6 x_65) fun t_85 =>
  if t_80 ≥ t_85 then (
  none)
  else (
  Option.bind (ix t_6 x_65) fun t_91 =>
  if t_91 > 6 then (
  none)
  else (
  again_66 (w64 (x_65 + 1)))))
  else (
  Option.bind (ix t_6 x_65) fun t_97 =>
  if t_97 > 6 then (
  none)
  else (
  again_66 (w64 (x_65 + 1))))))
  else (
  ex_66 ())
def hocketlaw14_ViewCounts.L1 (K : Nat) (t_6 : (List Int)) (x0 : Int) (ex_66 : Unit → Option (Unit)) : Nat → Int → Option (Unit) :=
  iter fun again v => hocketlaw14_ViewCounts.B1 K t_6 x0 ex_66 again v
def hocketlaw14_ViewCounts.J1 (K : Nat) (x0 : Int) (x1 : Int) (x_3 : Int) : Option (Unit) :=
  Option.bind (view_Members.f K (band .i64 x0 255)) fun t_6 =>
  hocketlaw14_ViewCounts.L1 K t_6 x0 (fun v => hocketlaw14_ViewCounts.J2 K x0 x1 x_3) K 0
def hocketlaw14_ViewCounts.B2 (K : Nat) (x1 : Int) (x0 : Int) (ex_106 : Int → Option (Unit)) (again_106 : Int × Int → Option (Unit)) (x_104 : Int) (x_105 : Int) : Option (Unit) :=
  if x_105 < (w64 ((Int.tmod (band .i64 x1 255) 7) + 1)) then (
  again_106 (w64 (x_104 + (band .i64 (shr .i64 (band .i64 x0 255) (wu64 x_105)) 1)), w64 (x_105 + 1)))
  else (
  ex_106 x_104)
def hocketlaw14_ViewCounts.L2 (K : Nat) (x1 : Int) (x0 : Int) (ex_106 : Int → Option (Unit)) : Nat → Int × Int → Option (Unit) :=
  iter fun again v => hocketlaw14_ViewCounts.B2 K x1 x0 ex_106 again v.1 v.2
def hocketlaw14_ViewCounts.f (K : Nat) (x0 : Int) (x1 : Int) : Option (Unit) :=
  hocketlaw14_ViewCounts.L2 K x1 x0 (fun v => hocketlaw14_ViewCounts.J1 K x0 x1 v) K (0, 0)

def hocketref11_Next.f (x0 : Int) (x1 : Int) : Option (Int) :=
  some (w64 ((w64 (8 * (w64 ((w64 (Int.tdiv (mn (mx x0 0) 549755813888) 8)) + 1)))) + (mn (mx x1 0) 6)))

def hocketref11_Who.f (x0 : Int) : Option (Int) :=
  some (band .i64 (mx x0 0) 7)

def hocketref11_Members.J1 (K : Nat) (x_3 : List Int) : Option ((List Int)) :=
  some x_3
def hocketref11_Members.B1 (K : Nat) (x0 : Int) (ex_17 : (List Int) → Option ((List Int))) (again_17 : (List Int) × Int → Option ((List Int))) (x_11 : List Int) (x_16 : Int) : Option ((List Int)) :=
  if x_16 < 7 then (
  if (band .i64 (shr .i64 x0 (wu64 x_16)) 1) = 1 then (
  Option.bind (app 17592186044416 x_11 ([x_16] : List Int)) fun t_30 =>
  again_17 (t_30, w64 (x_16 + 1)))
  else (
  again_17 (x_11, w64 (x_16 + 1))))
  else (
  ex_17 x_11)
def hocketref11_Members.L1 (K : Nat) (x0 : Int) (ex_17 : (List Int) → Option ((List Int))) : Nat → (List Int) × Int → Option ((List Int)) :=
  iter fun again v => hocketref11_Members.B1 K x0 ex_17 again v.1 v.2
def hocketref11_Members.f (K : Nat) (x0 : Int) : Option ((List Int)) :=
  hocketref11_Members.L1 K x0 (fun v => hocketref11_Members.J1 K v) K (([] : List Int), 0)

def hocketref11_Most.f (K : Nat) (x0 : Int) (x1 : Int) : Option (Bool) :=
  if (shr .i64 x0 (wu64 (mn (mx x1 1) 7))) = 0 then (
  Option.bind (hocketref11_Members.f K x0) fun t_3 =>
  some (decide ((w64 (2 * (t_3.length : Int))) > (mn (mx x1 1) 7))))
  else (
  some false)

def hocketref11_After.J1 (K : Nat) (t_1 : (List Int)) : Option (Int) :=
  if (t_1.length : Int) = 0 then (
  some (-1))
  else (
  Option.bind (ix t_1 0) fun t_15 =>
  some t_15)
def hocketref11_After.B1 (K : Nat) (t_1 : (List Int)) (x1 : Int) (ex_22 : Unit → Option (Int)) (again_22 : Int → Option (Int)) (x_21 : Int) : Option (Int) :=
  if x_21 < (t_1.length : Int) then (
  Option.bind (ix t_1 x_21) fun t_27 =>
  if t_27 > x1 then (
  Option.bind (ix t_1 x_21) fun t_33 =>
  some t_33)
  else (
  again_22 (w64 (x_21 + 1))))
  else (
  ex_22 ())
def hocketref11_After.L1 (K : Nat) (t_1 : (List Int)) (x1 : Int) (ex_22 : Unit → Option (Int)) : Nat → Int → Option (Int) :=
  iter fun again v => hocketref11_After.B1 K t_1 x1 ex_22 again v
def hocketref11_After.f (K : Nat) (x0 : Int) (x1 : Int) : Option (Int) :=
  Option.bind (hocketref11_Members.f K x0) fun t_1 =>
  hocketref11_After.L1 K t_1 x1 (fun v => hocketref11_After.J1 K t_1) K 0

def hocketref11_Limit.f (x0 : Int) : Option (Int) :=
  some (w64 (400 + (w64 (40 * (mn (mx x0 0) 6)))))

def hocketlaw7_Keys.f (x0 : Int) : Option ((List UInt8)) :=
  Option.bind (ix ([([] : List UInt8), ([97] : List UInt8), ([98] : List UInt8), ([99] : List UInt8), ([97, 98] : List UInt8), ([97, 98, 99] : List UInt8), ([122] : List UInt8), ([0] : List UInt8), ([255] : List UInt8), ([97, 98, 99, 100, 101, 102, 103, 104] : List UInt8), ([97, 98, 99, 100, 101, 102, 103, 104, 105] : List UInt8), ([107, 49] : List UInt8), ([107, 50] : List UInt8), ([107, 51] : List UInt8), ([107, 52] : List UInt8), ([107, 53] : List UInt8)] : List (List UInt8)) (band .i64 x0 15)) fun t_7 =>
  Option.bind (must (t_7.length ≤ 9223372036854775807)) fun u_12 =>
  some t_7

def hocketlaw8_Cmd.J3 (x0 : Int) (x_23 : api_Cmd) (x_39 : Int) : Option (api_Cmd) :=
  if (band .i64 (shr .i64 x0 19) 31) = 0 then (
  some (⟨band .i64 (shr .i64 x0 24) 31, w64 ((band .i64 (shr .i64 x0 17) 2047) - 20), x_23.Key, x_23.Val, x_23.Old⟩ : api_Cmd))
  else (
  some (⟨x_39, x_23.Who, x_23.Key, x_23.Val, x_23.Old⟩ : api_Cmd))
def hocketlaw8_Cmd.J2 (x0 : Int) (x_23 : api_Cmd) (x_35 : Bool) : Option (api_Cmd) :=
  if x_35 = true then (
  Option.bind (ix ([1, 2, 4, 9] : List Int) (band .i64 (shr .i64 x0 17) 3)) fun t_55 =>
  hocketlaw8_Cmd.J3 x0 x_23 t_55)
  else (
  hocketlaw8_Cmd.J3 x0 x_23 x_23.Kind)
def hocketlaw8_Cmd.J1 (x0 : Int) (x_23 : api_Cmd) : Option (api_Cmd) :=
  if x_23.Kind = 0 then (
  hocketlaw8_Cmd.J2 x0 x_23 true)
  else (
  hocketlaw8_Cmd.J2 x0 x_23 (x_23.Kind == 12))
def hocketlaw8_Cmd.f (x0 : Int) : Option (api_Cmd) :=
  Option.bind (ix ([([] : List UInt8), ([97] : List UInt8), ([98] : List UInt8), ([97, 98] : List UInt8), ([118, 97, 108, 117, 101] : List UInt8), ([48, 49, 50, 51, 52, 53, 54, 55, 56, 57, 97, 98, 99, 100, 101, 102] : List UInt8), ([48, 49, 50, 51, 52, 53, 54, 55, 56, 57, 97, 98, 99, 100, 101, 102, 103] : List UInt8), ([0, 255] : List UInt8)] : List (List UInt8)) (band .i64 (shr .i64 x0 5) 7)) fun t_9 =>
  Option.bind (must (t_9.length ≤ 9223372036854775807)) fun u_14 =>
  Option.bind (hocketlaw7_Keys.f (shr .i64 x0 11)) fun t_63 =>
  Option.bind (ix ([([] : List UInt8), ([97] : List UInt8), ([98] : List UInt8), ([97, 98] : List UInt8)] : List (List UInt8)) (band .i64 (shr .i64 x0 15) 3)) fun t_75 =>
  Option.bind (must (t_75.length ≤ 9223372036854775807)) fun u_80 =>
  hocketlaw8_Cmd.J1 x0 (⟨w64 ((Int.tmod (band .i64 x0 31) 13) + 0), band .i64 (shr .i64 x0 8) 7, t_63, t_9, t_75⟩ : api_Cmd)

def hocketlaw10_Entry.f (x0 : Int) (x1 : Int) : Option (api_Entry) :=
  Option.bind (hocketlaw8_Cmd.f x0) fun t_3 =>
  some (⟨w64 ((Int.tmod (band .i64 (shr .i64 x0 25) 7) 6) + 1), w64 ((w64 ((w64 (Int.tdiv x1 3)) + (band .i64 (shr .i64 x0 28) 1))) + 1), t_3⟩ : api_Entry)

def hocketlaw11_Msg.J1 (K : Nat) (x0 : Int) (x1 : Int) (x_34 : List UInt8) : Option (api_Msg) :=
  some (⟨w64 ((band .i64 x0 7) + 1), Int.tmod (band .i64 (shr .i64 x0 3) 7) 7, Int.tmod (band .i64 (shr .i64 x0 6) 7) 7, band .i64 (shr .i64 x0 9) 1023, 0, 0, false, 0, 0, band .i64 x1 4095, band .i64 (shr .i64 x1 12) 4095, x_34, 0, 0, ([] : List Int), ([] : List Int), 0, (⟨0, 0, (⟨0, 0, ([] : List UInt8), ([] : List UInt8), ([] : List UInt8)⟩ : api_Cmd)⟩ : api_Entry)⟩ : api_Msg)
def hocketlaw11_Msg.B1 (K : Nat) (x1 : Int) (ex_51 : (List UInt8) → Option (api_Msg)) (again_51 : Int × (List UInt8) → Option (api_Msg)) (x_45 : Int) (x_46 : List UInt8) : Option (api_Msg) :=
  if x_45 < (band .i64 (shr .i64 x1 24) 63) then (
  Option.bind (app 140737488355328 x_46 ([toU8 (shr .i64 x1 (wu64 (band .i64 x_45 15)))] : List UInt8)) fun t_62 =>
  again_51 (w64 (x_45 + 1), t_62))
  else (
  ex_51 x_46)
def hocketlaw11_Msg.L1 (K : Nat) (x1 : Int) (ex_51 : (List UInt8) → Option (api_Msg)) : Nat → Int × (List UInt8) → Option (api_Msg) :=
  iter fun again v => hocketlaw11_Msg.B1 K x1 ex_51 again v.1 v.2
def hocketlaw11_Msg.J3 (K : Nat) (x0 : Int) (x1 : Int) (x_74 : List Int) (x_83 : List Int) : Option (api_Msg) :=
  some (⟨w64 ((band .i64 x0 7) + 1), Int.tmod (band .i64 (shr .i64 x0 3) 7) 7, Int.tmod (band .i64 (shr .i64 x0 6) 7) 7, band .i64 (shr .i64 x0 9) 1023, 0, 0, false, 0, 0, 0, 0, ([] : List UInt8), band .i64 x1 1023, band .i64 (shr .i64 x1 10) 255, x_74, x_83, 0, (⟨0, 0, (⟨0, 0, ([] : List UInt8), ([] : List UInt8), ([] : List UInt8)⟩ : api_Cmd)⟩ : api_Entry)⟩ : api_Msg)
def hocketlaw11_Msg.B2 (K : Nat) (x1 : Int) (ex_99 : (List Int) → Option (api_Msg)) (again_99 : Int × (List Int) → Option (api_Msg)) (x_93 : Int) (x_94 : List Int) : Option (api_Msg) :=
  if x_93 < (band .i64 (shr .i64 x1 21) 7) then (
  Option.bind (app 17592186044416 x_94 ([band .i64 (shr .i64 x1 (wu64 (w64 (x_93 + 3)))) 63] : List Int)) fun t_110 =>
  again_99 (w64 (x_93 + 1), t_110))
  else (
  ex_99 x_94)
def hocketlaw11_Msg.L2 (K : Nat) (x1 : Int) (ex_99 : (List Int) → Option (api_Msg)) : Nat → Int × (List Int) → Option (api_Msg) :=
  iter fun again v => hocketlaw11_Msg.B2 K x1 ex_99 again v.1 v.2
def hocketlaw11_Msg.J2 (K : Nat) (x1 : Int) (x0 : Int) (x_74 : List Int) : Option (api_Msg) :=
  hocketlaw11_Msg.L2 K x1 (fun v => hocketlaw11_Msg.J3 K x0 x1 x_74 v) K (0, ([] : List Int))
def hocketlaw11_Msg.B3 (K : Nat) (x1 : Int) (ex_124 : (List Int) → Option (api_Msg)) (again_124 : Int × (List Int) → Option (api_Msg)) (x_118 : Int) (x_119 : List Int) : Option (api_Msg) :=
  if x_118 < (band .i64 (shr .i64 x1 18) 7) then (
  Option.bind (app 17592186044416 x_119 ([band .i64 (shr .i64 x1 (wu64 x_118)) 63] : List Int)) fun t_135 =>
  again_124 (w64 (x_118 + 1), t_135))
  else (
  ex_124 x_119)
def hocketlaw11_Msg.L3 (K : Nat) (x1 : Int) (ex_124 : (List Int) → Option (api_Msg)) : Nat → Int × (List Int) → Option (api_Msg) :=
  iter fun again v => hocketlaw11_Msg.B3 K x1 ex_124 again v.1 v.2
def hocketlaw11_Msg.f (K : Nat) (x0 : Int) (x1 : Int) : Option (api_Msg) :=
  if (w64 ((band .i64 x0 7) + 1)) = 2 then (
  some (⟨w64 ((band .i64 x0 7) + 1), Int.tmod (band .i64 (shr .i64 x0 3) 7) 7, Int.tmod (band .i64 (shr .i64 x0 6) 7) 7, band .i64 (shr .i64 x0 9) 1023, band .i64 x1 255, band .i64 (shr .i64 x1 8) 63, ((band .i64 (shr .i64 x1 14) 1) == 1), 0, 0, 0, 0, ([] : List UInt8), 0, 0, ([] : List Int), ([] : List Int), 0, (⟨0, 0, (⟨0, 0, ([] : List UInt8), ([] : List UInt8), ([] : List UInt8)⟩ : api_Cmd)⟩ : api_Entry)⟩ : api_Msg))
  else (
  if (w64 ((band .i64 x0 7) + 1)) = 3 then (
  some (⟨w64 ((band .i64 x0 7) + 1), Int.tmod (band .i64 (shr .i64 x0 3) 7) 7, Int.tmod (band .i64 (shr .i64 x0 6) 7) 7, band .i64 (shr .i64 x0 9) 1023, 0, band .i64 (shr .i64 x1 10) 63, false, band .i64 x1 127, Int.tmod (band .i64 (shr .i64 x1 7) 7) 7, 0, 0, ([] : List UInt8), 0, 0, ([] : List Int), ([] : List Int), 0, (⟨0, 0, (⟨0, 0, ([] : List UInt8), ([] : List UInt8), ([] : List UInt8)⟩ : api_Cmd)⟩ : api_Entry)⟩ : api_Msg))
  else (
  if (w64 ((band .i64 x0 7) + 1)) = 4 then (
  some (⟨w64 ((band .i64 x0 7) + 1), Int.tmod (band .i64 (shr .i64 x0 3) 7) 7, Int.tmod (band .i64 (shr .i64 x0 6) 7) 7, band .i64 (shr .i64 x0 9) 1023, 0, 0, false, 0, 0, band .i64 x1 4095, 0, ([] : List UInt8), 0, 0, ([] : List Int), ([] : List Int), 0, (⟨0, 0, (⟨0, 0, ([] : List UInt8), ([] : List UInt8), ([] : List UInt8)⟩ : api_Cmd)⟩ : api_Entry)⟩ : api_Msg))
  else (
  if (w64 ((band .i64 x0 7) + 1)) = 5 then (
  hocketlaw11_Msg.L1 K x1 (fun v => hocketlaw11_Msg.J1 K x0 x1 v) K (0, ([] : List UInt8)))
  else (
  if (w64 ((band .i64 x0 7) + 1)) = 7 then (
  hocketlaw11_Msg.L3 K x1 (fun v => hocketlaw11_Msg.J2 K x1 x0 v) K (0, ([] : List Int)))
  else (
  if (w64 ((band .i64 x0 7) + 1)) = 8 then (
  Option.bind (hocketlaw10_Entry.f x0 (band .i64 (shr .i64 x1 10) 63)) fun t_143 =>
  some (⟨w64 ((band .i64 x0 7) + 1), Int.tmod (band .i64 (shr .i64 x0 3) 7) 7, Int.tmod (band .i64 (shr .i64 x0 6) 7) 7, band .i64 (shr .i64 x0 9) 1023, 0, 0, false, 0, 0, 0, 0, ([] : List UInt8), 0, 0, ([] : List Int), ([] : List Int), band .i64 x1 1023, (⟨t_143.Sess, t_143.Seq, (⟨t_143.Cmd.Kind, mx t_143.Cmd.Who 0, t_143.Cmd.Key, t_143.Cmd.Val, t_143.Cmd.Old⟩ : api_Cmd)⟩ : api_Entry)⟩ : api_Msg))
  else (
  some (⟨w64 ((band .i64 x0 7) + 1), Int.tmod (band .i64 (shr .i64 x0 3) 7) 7, Int.tmod (band .i64 (shr .i64 x0 6) 7) 7, band .i64 (shr .i64 x0 9) 1023, 0, 0, false, 0, 0, 0, 0, ([] : List UInt8), 0, 0, ([] : List Int), ([] : List Int), 0, (⟨0, 0, (⟨0, 0, ([] : List UInt8), ([] : List UInt8), ([] : List UInt8)⟩ : api_Cmd)⟩ : api_Entry)⟩ : api_Msg)))))))

def hocketref11_Choose.J3 (K : Nat) (x_10 : List api_Msg) (x_19 : Int) (x_8 : Int) (x_25 : Bool) : Option (Int × Int × Int × Bool) :=
  if x_25 = true then (
  some (0, 0, 0, false))
  else (
  Option.bind (ix x_10 x_19) fun t_31 =>
  some (x_8, x_19, t_31.Len, true))
def hocketref11_Choose.J2 (K : Nat) (x_10 : List api_Msg) (x_8 : Int) (x1 : Int) (x_19 : Int) : Option (Int × Int × Int × Bool) :=
  if x_19 < 0 then (
  hocketref11_Choose.J3 K x_10 x_19 x_8 true)
  else (
  Option.bind (hocketref11_Most.f K x_8 (mn (mx x1 1) 7)) fun t_49 =>
  hocketref11_Choose.J3 K x_10 x_19 x_8 (!t_49))
def hocketref11_Choose.J4 (K : Nat) (again_56 : Int × Int → Option (Int × Int × Int × Bool)) (x_55 : Int) (x_54 : Int) (x_63 : Bool) : Option (Int × Int × Int × Bool) :=
  if x_63 = true then (
  again_56 (x_55, w64 (x_55 + 1)))
  else (
  again_56 (x_54, w64 (x_55 + 1)))
def hocketref11_Choose.B1 (K : Nat) (x1 : Int) (x_8 : Int) (x_10 : List api_Msg) (x_9 : Int) (ex_56 : Int → Option (Int × Int × Int × Bool)) (again_56 : Int × Int → Option (Int × Int × Int × Bool)) (x_54 : Int) (x_55 : Int) : Option (Int × Int × Int × Bool) :=
  if x_55 < (mn (mx x1 1) 7) then (
  if (band .i64 (shr .i64 x_8 (wu64 x_55)) 1) = 1 then (
  Option.bind (ix x_10 x_55) fun t_69 =>
  if t_69.Has = true then (
  Option.bind (ix x_10 x_55) fun t_87 =>
  if t_87.Inst = x_9 then (
  if x_54 < 0 then (
  hocketref11_Choose.J4 K again_56 x_55 x_54 true)
  else (
  Option.bind (ix x_10 x_55) fun t_106 =>
  Option.bind (ix x_10 x_54) fun t_123 =>
  hocketref11_Choose.J4 K again_56 x_55 x_54 (decide (t_106.Len > t_123.Len))))
  else (
  hocketref11_Choose.J4 K again_56 x_55 x_54 false))
  else (
  hocketref11_Choose.J4 K again_56 x_55 x_54 false))
  else (
  hocketref11_Choose.J4 K again_56 x_55 x_54 false))
  else (
  ex_56 x_54)
def hocketref11_Choose.L1 (K : Nat) (x1 : Int) (x_8 : Int) (x_10 : List api_Msg) (x_9 : Int) (ex_56 : Int → Option (Int × Int × Int × Bool)) : Nat → Int × Int → Option (Int × Int × Int × Bool) :=
  iter fun again v => hocketref11_Choose.B1 K x1 x_8 x_10 x_9 ex_56 again v.1 v.2
def hocketref11_Choose.J1 (K : Nat) (x1 : Int) (x_8 : Int) (x_9 : Int) (x_10 : List api_Msg) : Option (Int × Int × Int × Bool) :=
  hocketref11_Choose.L1 K x1 x_8 x_10 x_9 (fun v => hocketref11_Choose.J2 K x_10 x_8 x1 v) K ((-1), 0)
def hocketref11_Choose.J7 (K : Nat) (x_143 : List api_Msg) (t_153 : api_Msg) (again_149 : Int × Int × (List api_Msg) × Int → Option (Int × Int × Int × Bool)) (x_141 : Int) (x_148 : Int) (x_187 : Int) : Option (Int × Int × Int × Bool) :=
  Option.bind (ix x_143 t_153.From) fun t_190 =>
  again_149 (bor .i64 x_141 (shl .i64 1 (wu64 t_153.From)), x_187, (x_143.set (t_153.From).toNat t_153), w64 (x_148 + 1))
def hocketref11_Choose.J6 (K : Nat) (x_143 : List api_Msg) (t_153 : api_Msg) (again_149 : Int × Int × (List api_Msg) × Int → Option (Int × Int × Int × Bool)) (x_141 : Int) (x_148 : Int) (x_142 : Int) (x_183 : Bool) : Option (Int × Int × Int × Bool) :=
  if x_183 = true then (
  hocketref11_Choose.J7 K x_143 t_153 again_149 x_141 x_148 t_153.Inst)
  else (
  hocketref11_Choose.J7 K x_143 t_153 again_149 x_141 x_148 x_142)
def hocketref11_Choose.J5 (K : Nat) (again_149 : Int × Int × (List api_Msg) × Int → Option (Int × Int × Int × Bool)) (x_141 : Int) (x_142 : Int) (x_143 : List api_Msg) (x_148 : Int) (t_153 : api_Msg) (x_176 : Bool) : Option (Int × Int × Int × Bool) :=
  if x_176 = true then (
  again_149 (x_141, x_142, x_143, w64 (x_148 + 1)))
  else (
  if (bor .i64 x_141 (shl .i64 1 (wu64 t_153.From))) = (shl .i64 1 (wu64 t_153.From)) then (
  hocketref11_Choose.J6 K x_143 t_153 again_149 x_141 x_148 x_142 true)
  else (
  hocketref11_Choose.J6 K x_143 t_153 again_149 x_141 x_148 x_142 (decide (t_153.Inst > x_142))))
def hocketref11_Choose.B2 (K : Nat) (x0 : List api_Msg) (x1 : Int) (ex_149 : Int × Int × (List api_Msg) → Option (Int × Int × Int × Bool)) (again_149 : Int × Int × (List api_Msg) × Int → Option (Int × Int × Int × Bool)) (x_141 : Int) (x_142 : Int) (x_143 : List api_Msg) (x_148 : Int) : Option (Int × Int × Int × Bool) :=
  if x_148 < (x0.length : Int) then (
  Option.bind (ix x0 x_148) fun t_153 =>
  if t_153.Kind = 2 then (
  if t_153.From < 0 then (
  hocketref11_Choose.J5 K again_149 x_141 x_142 x_143 x_148 t_153 true)
  else (
  if t_153.From ≥ (mn (mx x1 1) 7) then (
  hocketref11_Choose.J5 K again_149 x_141 x_142 x_143 x_148 t_153 true)
  else (
  hocketref11_Choose.J5 K again_149 x_141 x_142 x_143 x_148 t_153 ((band .i64 (shr .i64 x_141 (wu64 t_153.From)) 1) == 1))))
  else (
  hocketref11_Choose.J5 K again_149 x_141 x_142 x_143 x_148 t_153 true))
  else (
  ex_149 (x_141, x_142, x_143))
def hocketref11_Choose.L2 (K : Nat) (x0 : List api_Msg) (x1 : Int) (ex_149 : Int × Int × (List api_Msg) → Option (Int × Int × Int × Bool)) : Nat → Int × Int × (List api_Msg) × Int → Option (Int × Int × Int × Bool) :=
  iter fun again v => hocketref11_Choose.B2 K x0 x1 ex_149 again v.1 v.2.1 v.2.2.1 v.2.2.2
def hocketref11_Choose.f (K : Nat) (x0 : List api_Msg) (x1 : Int) : Option (Int × Int × Int × Bool) :=
  hocketref11_Choose.L2 K x0 x1 (fun v => hocketref11_Choose.J1 K x1 v.1 v.2.1 v.2.2) K (0, 0, (List.replicate 7 (⟨0, 0, 0, 0, 0, 0, false, 0, 0, 0, 0, ([] : List UInt8), 0, 0, ([] : List Int), ([] : List Int), 0, (⟨0, 0, (⟨0, 0, ([] : List UInt8), ([] : List UInt8), ([] : List UInt8)⟩ : api_Cmd)⟩ : api_Entry)⟩ : api_Msg)), 0)

def hocketlaw14_ViewTells.J3 (K : Nat) : Option (Unit) :=
  Option.bind (hocketlaw14_awake.f K) fun t_52 =>
  some ()
def hocketlaw14_ViewTells.J4 (K : Nat) (again_58 : Int → Option (Unit)) (x_57 : Int) : Option (Unit) :=
  again_58 (w64 (x_57 + 1))
def hocketlaw14_ViewTells.B2 (K : Nat) (x_9 : Int) (t_63 : List api_Msg) (ex_82 : Unit → Option (Unit)) (again_82 : Int → Option (Unit)) (x_81 : Int) : Option (Unit) :=
  if x_81 < (([x_9, 3, 5, 7] : List Int).length : Int) then (
  Option.bind (ix ([x_9, 3, 5, 7] : List Int) x_81) fun t_87 =>
  Option.bind (view_Choose.f K t_63 t_87) fun t_92 =>
  Option.bind (hocketref11_Choose.f K t_63 t_87) fun t_96 =>
  if t_92.1 = t_96.1 then (
  if t_92.2.1 = t_96.2.1 then (
  if t_92.2.2.1 = t_96.2.2.1 then (
  if t_92.2.2.2 = t_96.2.2.2 then (
  again_82 (w64 (x_81 + 1)))
  else (
  none))
  else (
  none))
  else (
  none))
  else (
  none))
  else (
  ex_82 ())
def hocketlaw14_ViewTells.L2 (K : Nat) (x_9 : Int) (t_63 : List api_Msg) (ex_82 : Unit → Option (Unit)) : Nat → Int → Option (Unit) :=
  iter fun again v => hocketlaw14_ViewTells.B2 K x_9 t_63 ex_82 again v
def hocketlaw14_ViewTells.B1 (K : Nat) (x3 : List api_Msg) (x_14 : List api_Msg) (t_34 : List api_Msg) (x_9 : Int) (ex_58 : Unit → Option (Unit)) (again_58 : Int → Option (Unit)) (x_57 : Int) : Option (Unit) :=
  if x_57 < (([x3, x_14, t_34] : List (List api_Msg)).length : Int) then (
  Option.bind (ix ([x3, x_14, t_34] : List (List api_Msg)) x_57) fun t_63 =>
  hocketlaw14_ViewTells.L2 K x_9 t_63 (fun v => hocketlaw14_ViewTells.J4 K again_58 x_57) K 0)
  else (
  ex_58 ())
def hocketlaw14_ViewTells.L1 (K : Nat) (x3 : List api_Msg) (x_14 : List api_Msg) (t_34 : List api_Msg) (x_9 : Int) (ex_58 : Unit → Option (Unit)) : Nat → Int → Option (Unit) :=
  iter fun again v => hocketlaw14_ViewTells.B1 K x3 x_14 t_34 x_9 ex_58 again v
def hocketlaw14_ViewTells.J2 (K : Nat) (x3 : List api_Msg) (x_9 : Int) (x_14 : List api_Msg) : Option (Unit) :=
  Option.bind (app 488671834567 ([] : List api_Msg) x_14) fun t_28 =>
  Option.bind (app 488671834567 t_28 x3) fun t_34 =>
  hocketlaw14_ViewTells.L1 K x3 x_14 t_34 x_9 (fun v => hocketlaw14_ViewTells.J3 K) K 0
def hocketlaw14_ViewTells.J6 (K : Nat) (x4 : List Int) (x_111 : Int) (x_106 : List api_Msg) (again_112 : (List api_Msg) × Int → Option (Unit)) (x_125 : api_Msg) : Option (Unit) :=
  Option.bind (ix x4 x_111) fun t_147 =>
  Option.bind (app 488671834567 x_106 ([(⟨x_125.Kind, band .i64 (shr .i64 t_147 12) 7, x_125.To, x_125.View, w64 ((band .i64 x_125.Inst 3) * 8), x_125.Len, x_125.Has, x_125.Members, x_125.Source, x_125.At, x_125.Total, x_125.Data, x_125.Hop, x_125.Seq, x_125.Have, x_125.Need, x_125.Index, x_125.Entry⟩ : api_Msg)] : List api_Msg)) fun t_162 =>
  again_112 (t_162, w64 (x_111 + 1))
def hocketlaw14_ViewTells.J5 (K : Nat) (x4 : List Int) (x_111 : Int) (x_106 : List api_Msg) (again_112 : (List api_Msg) × Int → Option (Unit)) (ex_112 : (List api_Msg) → Option (Unit)) (x_118 : Bool) : Option (Unit) :=
  if x_118 = true then (
  Option.bind (ix x4 x_111) fun t_169 =>
  Option.bind (ix x4 x_111) fun t_174 =>
  Option.bind (hocketlaw11_Msg.f K (bor .i64 (bandn .i64 t_169 7) 1) (shr .i64 t_174 4)) fun t_179 =>
  hocketlaw14_ViewTells.J6 K x4 x_111 x_106 again_112 t_179)
  else (
  ex_112 x_106)
def hocketlaw14_ViewTells.B3 (K : Nat) (x4 : List Int) (ex_112 : (List api_Msg) → Option (Unit)) (again_112 : (List api_Msg) × Int → Option (Unit)) (x_106 : List api_Msg) (x_111 : Int) : Option (Unit) :=
  if x_111 < (x4.length : Int) then (
  hocketlaw14_ViewTells.J5 K x4 x_111 x_106 again_112 ex_112 (decide (x_111 < 9)))
  else (
  hocketlaw14_ViewTells.J5 K x4 x_111 x_106 again_112 ex_112 false)
def hocketlaw14_ViewTells.L3 (K : Nat) (x4 : List Int) (ex_112 : (List api_Msg) → Option (Unit)) : Nat → (List api_Msg) × Int → Option (Unit) :=
  iter fun again v => hocketlaw14_ViewTells.B3 K x4 ex_112 again v.1 v.2
def hocketlaw14_ViewTells.J1 (K : Nat) (x4 : List Int) (x3 : List api_Msg) (x_9 : Int) : Option (Unit) :=
  hocketlaw14_ViewTells.L3 K x4 (fun v => hocketlaw14_ViewTells.J2 K x3 x_9 v) K (([] : List api_Msg), 0)
def hocketlaw14_ViewTells.J7 (K : Nat) (again_235 : Int × Int × Int × Int → Option (Unit)) (x_231 : Int) (x_232 : Int) (x_233 : Int) (x_234 : Int) (x_242 : Bool) : Option (Unit) :=
  if x_242 = true then (
  none)
  else (
  again_235 (band .i64 x_231 127, band .i64 x_232 7, w64 ((band .i64 x_233 7) + 1), w64 (x_234 + 1)))
def hocketlaw14_ViewTells.B4 (K : Nat) (ex_235 : Int → Option (Unit)) (again_235 : Int × Int × Int × Int → Option (Unit)) (x_231 : Int) (x_232 : Int) (x_233 : Int) (x_234 : Int) : Option (Unit) :=
  if x_234 < 2 then (
  Option.bind (view_Next.f x_231 x_232) fun t_246 =>
  Option.bind (hocketref11_Next.f x_231 x_232) fun t_250 =>
  if t_246 = t_250 then (
  Option.bind (view_Who.f x_231) fun t_255 =>
  Option.bind (hocketref11_Who.f x_231) fun t_259 =>
  if t_255 = t_259 then (
  Option.bind (view_Members.f K x_231) fun t_264 =>
  Option.bind (hocketref11_Members.f K x_231) fun t_272 =>
  Option.bind (hocketref1_SameInts.f K t_264 t_272) fun t_280 =>
  if t_280 = true then (
  Option.bind (view_Most.f x_231 x_233) fun t_285 =>
  Option.bind (hocketref11_Most.f K x_231 x_233) fun t_289 =>
  if t_285 = t_289 then (
  Option.bind (view_After.f K x_231 x_232) fun t_294 =>
  Option.bind (hocketref11_After.f K x_231 x_232) fun t_298 =>
  if t_294 = t_298 then (
  Option.bind (view_Limit.f x_232) fun t_303 =>
  Option.bind (hocketref11_Limit.f x_232) fun t_307 =>
  hocketlaw14_ViewTells.J7 K again_235 x_231 x_232 x_233 x_234 (t_303 != t_307))
  else (
  hocketlaw14_ViewTells.J7 K again_235 x_231 x_232 x_233 x_234 true))
  else (
  hocketlaw14_ViewTells.J7 K again_235 x_231 x_232 x_233 x_234 true))
  else (
  hocketlaw14_ViewTells.J7 K again_235 x_231 x_232 x_233 x_234 true))
  else (
  hocketlaw14_ViewTells.J7 K again_235 x_231 x_232 x_233 x_234 true))
  else (
  hocketlaw14_ViewTells.J7 K again_235 x_231 x_232 x_233 x_234 true))
  else (
  ex_235 x_233)
def hocketlaw14_ViewTells.L4 (K : Nat) (ex_235 : Int → Option (Unit)) : Nat → Int × Int × Int × Int → Option (Unit) :=
  iter fun again v => hocketlaw14_ViewTells.B4 K ex_235 again v.1 v.2.1 v.2.2.1 v.2.2.2
def hocketlaw14_ViewTells.f (K : Nat) (x0 : Int) (x1 : Int) (x2 : Int) (x3 : List api_Msg) (x4 : List Int) : Option (Unit) :=
  if (x3.length : Int) > 15 then (
  Option.bind (hocketlaw14_awake.f K) fun t_3 =>
  some ())
  else (
  hocketlaw14_ViewTells.L4 K (fun v => hocketlaw14_ViewTells.J1 K x4 x3 v) K (x0, x1, x2, 0))

def hocketlaw14_ViewMeets.J4 (K : Nat) (t_23 : (List Int)) (x_38 : Int) : Option (Unit) :=
  if (t_23.length : Int) = 0 then (
  Option.bind (hocketlaw14_awake.f K) fun t_43 =>
  some ())
  else (
  Option.bind (ix t_23 0) fun t_47 =>
  if x_38 = t_47 then (
  Option.bind (hocketlaw14_awake.f K) fun t_53 =>
  some ())
  else (
  none))
def hocketlaw14_ViewMeets.B1 (K : Nat) (t_23 : (List Int)) (x0 : Int) (ex_60 : Int → Option (Unit)) (again_60 : Int × Int → Option (Unit)) (x_58 : Int) (x_59 : Int) : Option (Unit) :=
  if x_59 < (t_23.length : Int) then (
  Option.bind (ix t_23 x_59) fun t_65 =>
  if x_58 = t_65 then (
  Option.bind (view_After.f K (band .i64 x0 127) x_58) fun t_71 =>
  again_60 (t_71, w64 (x_59 + 1)))
  else (
  none))
  else (
  ex_60 x_58)
def hocketlaw14_ViewMeets.L1 (K : Nat) (t_23 : (List Int)) (x0 : Int) (ex_60 : Int → Option (Unit)) : Nat → Int × Int → Option (Unit) :=
  iter fun again v => hocketlaw14_ViewMeets.B1 K t_23 x0 ex_60 again v.1 v.2
def hocketlaw14_ViewMeets.J3 (K : Nat) (t_23 : (List Int)) (x0 : Int) (x_33 : Int) : Option (Unit) :=
  hocketlaw14_ViewMeets.L1 K t_23 x0 (fun v => hocketlaw14_ViewMeets.J4 K t_23 v) K (x_33, 0)
def hocketlaw14_ViewMeets.J2 (K : Nat) (x0 : Int) (x_19 : Bool) : Option (Unit) :=
  if x_19 = true then (
  none)
  else (
  Option.bind (view_Members.f K (band .i64 x0 127)) fun t_23 =>
  if (t_23.length : Int) > 0 then (
  Option.bind (ix t_23 0) fun t_76 =>
  hocketlaw14_ViewMeets.J3 K t_23 x0 t_76)
  else (
  hocketlaw14_ViewMeets.J3 K t_23 x0 (-1)))
def hocketlaw14_ViewMeets.J1 (K : Nat) (x3 : Int) (x4 : Int) (x5 : Int) (x0 : Int) (x_4 : Bool) : Option (Unit) :=
  if x_4 = true then (
  none)
  else (
  Option.bind (view_Next.f (band .i64 x3 1048575) (Int.tmod (band .i64 x4 255) 7)) fun t_8 =>
  Option.bind (view_Next.f (w64 ((band .i64 x3 1048575) + (band .i64 (band .i64 x3 1048575) 7))) (Int.tmod (band .i64 x5 255) 7)) fun t_12 =>
  if t_8 ≤ (band .i64 x3 1048575) then (
  hocketlaw14_ViewMeets.J2 K x0 true)
  else (
  Option.bind (view_Who.f t_8) fun t_82 =>
  if t_82 = (Int.tmod (band .i64 x4 255) 7) then (
  if (Int.tmod (band .i64 x4 255) 7) = (Int.tmod (band .i64 x5 255) 7) then (
  Option.bind (view_Next.f t_8 (Int.tmod (band .i64 x5 255) 7)) fun t_88 =>
  hocketlaw14_ViewMeets.J2 K x0 (decide (t_88 ≤ t_8)))
  else (
  if t_8 = t_12 then (
  hocketlaw14_ViewMeets.J2 K x0 true)
  else (
  Option.bind (view_Next.f t_8 (Int.tmod (band .i64 x5 255) 7)) fun t_93 =>
  hocketlaw14_ViewMeets.J2 K x0 (decide (t_93 ≤ t_8)))))
  else (
  hocketlaw14_ViewMeets.J2 K x0 true)))
def hocketlaw14_ViewMeets.f (K : Nat) (x0 : Int) (x1 : Int) (x2 : Int) (x3 : Int) (x4 : Int) (x5 : Int) : Option (Unit) :=
  Option.bind (view_Most.f (band .i64 x0 127) (w64 ((Int.tmod (band .i64 x2 255) 7) + 1))) fun t_97 =>
  if t_97 = true then (
  Option.bind (view_Most.f (band .i64 x1 127) (w64 ((Int.tmod (band .i64 x2 255) 7) + 1))) fun t_102 =>
  if t_102 = true then (
  Option.bind (view_Members.f K (band .i64 (band .i64 x0 127) (band .i64 x1 127))) fun t_107 =>
  hocketlaw14_ViewMeets.J1 K x3 x4 x5 x0 ((t_107.length : Int) == 0))
  else (
  hocketlaw14_ViewMeets.J1 K x3 x4 x5 x0 false))
  else (
  hocketlaw14_ViewMeets.J1 K x3 x4 x5 x0 false)

def slices_Min_sint_int.J1 (K : Nat) (x_10 : Int) : Option (Int) :=
  some x_10
def slices_Min_sint_int.B1 (K : Nat) (x0 : List Int) (ex_16 : Int → Option (Int)) (again_16 : Int × Int → Option (Int)) (x_14 : Int) (x_15 : Int) : Option (Int) :=
  if x_15 < (x0.length : Int) then (
  Option.bind (ix x0 x_15) fun t_20 =>
  again_16 (mn x_14 t_20, w64 (x_15 + 1)))
  else (
  ex_16 x_14)
def slices_Min_sint_int.L1 (K : Nat) (x0 : List Int) (ex_16 : Int → Option (Int)) : Nat → Int × Int → Option (Int) :=
  iter fun again v => slices_Min_sint_int.B1 K x0 ex_16 again v.1 v.2
def slices_Min_sint_int.f (K : Nat) (x0 : List Int) : Option (Int) :=
  if (x0.length : Int) < 1 then (
  none)
  else (
  Option.bind (ix x0 0) fun t_3 =>
  slices_Min_sint_int.L1 K x0 (fun v => slices_Min_sint_int.J1 K v) K (t_3, 1))

def tokn_Safe.f (K : Nat) (x0 : api_Msg) : Option (Int) :=
  if (x0.Have.length : Int) = 0 then (
  some 0)
  else (
  Option.bind (slices_Min_sint_int.f K x0.Have) fun t_5 =>
  some t_5)

def tokn_Room.f (K : Nat) (x0 : api_Msg) : Option (Int) :=
  Option.bind (tokn_Safe.f K x0) fun t_5 =>
  some (mn (mx (w64 ((w64 (t_5 + 16)) - x0.Seq)) 0) 4)

def slices_Clone_sint_int.f (x0 : List Int) : Option (List Int) :=
  app 17592186044416 ([] : List Int) x0

def slices_Index_sint_int.J1 (K : Nat) : Option (Int) :=
  some (-1)
def slices_Index_sint_int.B1 (K : Nat) (x0 : List Int) (x1 : Int) (ex_7 : Unit → Option (Int)) (again_7 : Int → Option (Int)) (x_6 : Int) : Option (Int) :=
  if x_6 < (x0.length : Int) then (
  Option.bind (ix x0 x_6) fun t_12 =>
  if x1 = t_12 then (
  some x_6)
  else (
  again_7 (w64 (x_6 + 1))))
  else (
  ex_7 ())
def slices_Index_sint_int.L1 (K : Nat) (x0 : List Int) (x1 : Int) (ex_7 : Unit → Option (Int)) : Nat → Int → Option (Int) :=
  iter fun again v => slices_Index_sint_int.B1 K x0 x1 ex_7 again v
def slices_Index_sint_int.f (K : Nat) (x0 : List Int) (x1 : Int) : Option (Int) :=
  slices_Index_sint_int.L1 K x0 x1 (fun v => slices_Index_sint_int.J1 K) K 0

def slices_Contains_sint_int.f (K : Nat) (x0 : List Int) (x1 : Int) : Option (Bool) :=
  Option.bind (slices_Index_sint_int.f K x0 x1) fun t_1 =>
  some (decide (t_1 ≥ 0))

def tokn_Pass.J4 (K : Nat) (x0 : api_Msg) (x1 : Int) (x3 : Int) (x5 : Int) (t_5 : Int) (x_29 : List Int) (x_42 : List Int) (x_56 : List Int) : Option (api_Msg × (List Int)) :=
  Option.bind (cut x_56 0 (mn (x_56.length : Int) 8)) fun t_64 =>
  Option.bind (slices_Clone_sint_int.f t_64) fun t_67 =>
  some ((⟨x0.Kind, x1, x3, x0.View, x0.Inst, x0.Len, x0.Has, x0.Members, x0.Source, x0.At, x0.Total, x0.Data, w64 (x0.Hop + 1), w64 (x0.Seq + (mn (mx x5 0) t_5)), x_29, t_67, x0.Index, x0.Entry⟩ : api_Msg), x_42)
def tokn_Pass.J5 (K : Nat) (x_78 : List Int) (t_89 : Int) (again_84 : (List Int) × Int → Option (api_Msg × (List Int))) (x_83 : Int) (x_96 : Bool) : Option (api_Msg × (List Int)) :=
  if x_96 = true then (
  Option.bind (app 17592186044416 x_78 ([t_89] : List Int)) fun t_106 =>
  again_84 (t_106, w64 (x_83 + 1)))
  else (
  again_84 (x_78, w64 (x_83 + 1)))
def tokn_Pass.B1 (K : Nat) (x7 : List Int) (t_36 : Int) (ex_84 : (List Int) → Option (api_Msg × (List Int))) (again_84 : (List Int) × Int → Option (api_Msg × (List Int))) (x_78 : List Int) (x_83 : Int) : Option (api_Msg × (List Int)) :=
  if x_83 < (x7.length : Int) then (
  Option.bind (ix x7 x_83) fun t_89 =>
  if t_89 > t_36 then (
  Option.bind (slices_Contains_sint_int.f K x_78 t_89) fun t_113 =>
  tokn_Pass.J5 K x_78 t_89 again_84 x_83 (!t_113))
  else (
  tokn_Pass.J5 K x_78 t_89 again_84 x_83 false))
  else (
  ex_84 x_78)
def tokn_Pass.L1 (K : Nat) (x7 : List Int) (t_36 : Int) (ex_84 : (List Int) → Option (api_Msg × (List Int))) : Nat → (List Int) × Int → Option (api_Msg × (List Int)) :=
  iter fun again v => tokn_Pass.B1 K x7 t_36 ex_84 again v.1 v.2
def tokn_Pass.J3 (K : Nat) (x7 : List Int) (t_36 : Int) (x0 : api_Msg) (x1 : Int) (x3 : Int) (x5 : Int) (t_5 : Int) (x_29 : List Int) (x_42 : List Int) (x_47 : List Int) : Option (api_Msg × (List Int)) :=
  tokn_Pass.L1 K x7 t_36 (fun v => tokn_Pass.J4 K x0 x1 x3 x5 t_5 x_29 x_42 v) K (x_47, 0)
def tokn_Pass.B2 (K : Nat) (x0 : api_Msg) (x6 : List Int) (t_36 : Int) (ex_129 : (List Int) × (List Int) → Option (api_Msg × (List Int))) (again_129 : (List Int) × (List Int) × Int → Option (api_Msg × (List Int))) (x_118 : List Int) (x_123 : List Int) (x_128 : Int) : Option (api_Msg × (List Int)) :=
  if x_128 < (x0.Need.length : Int) then (
  Option.bind (ix x0.Need x_128) fun t_136 =>
  Option.bind (slices_Contains_sint_int.f K x6 t_136) fun t_141 =>
  if t_141 = true then (
  Option.bind (app 17592186044416 x_118 ([t_136] : List Int)) fun t_152 =>
  again_129 (t_152, x_123, w64 (x_128 + 1)))
  else (
  if t_136 > t_36 then (
  Option.bind (app 17592186044416 x_123 ([t_136] : List Int)) fun t_165 =>
  again_129 (x_118, t_165, w64 (x_128 + 1)))
  else (
  again_129 (x_118, x_123, w64 (x_128 + 1)))))
  else (
  ex_129 (x_118, x_123))
def tokn_Pass.L2 (K : Nat) (x0 : api_Msg) (x6 : List Int) (t_36 : Int) (ex_129 : (List Int) × (List Int) → Option (api_Msg × (List Int))) : Nat → (List Int) × (List Int) × Int → Option (api_Msg × (List Int)) :=
  iter fun again v => tokn_Pass.B2 K x0 x6 t_36 ex_129 again v.1 v.2.1 v.2.2
def tokn_Pass.J2 (K : Nat) (x0 : api_Msg) (x1 : Int) (x3 : Int) (x5 : Int) (t_5 : Int) (x6 : List Int) (x7 : List Int) (x_29 : List Int) : Option (api_Msg × (List Int)) :=
  Option.bind (tokn_Safe.f K (⟨x0.Kind, x1, x3, x0.View, x0.Inst, x0.Len, x0.Has, x0.Members, x0.Source, x0.At, x0.Total, x0.Data, w64 (x0.Hop + 1), w64 (x0.Seq + (mn (mx x5 0) t_5)), x_29, x0.Need, x0.Index, x0.Entry⟩ : api_Msg)) fun t_36 =>
  tokn_Pass.L2 K x0 x6 t_36 (fun v => tokn_Pass.J3 K x7 t_36 x0 x1 x3 x5 t_5 x_29 v.1 v.2) K (([] : List Int), ([] : List Int), 0)
def tokn_Pass.J1 (K : Nat) (t_13 : (List Int)) (x2 : Int) (x0 : api_Msg) (x1 : Int) (x3 : Int) (x5 : Int) (t_5 : Int) (x6 : List Int) (x7 : List Int) (x4 : Int) (x_25 : Bool) : Option (api_Msg × (List Int)) :=
  if x_25 = true then (
  Option.bind (ix t_13 x2) fun t_172 =>
  tokn_Pass.J2 K x0 x1 x3 x5 t_5 x6 x7 (t_13.set (x2).toNat x4))
  else (
  tokn_Pass.J2 K x0 x1 x3 x5 t_5 x6 x7 t_13)
def tokn_Pass.f (K : Nat) (x0 : api_Msg) (x1 : Int) (x2 : Int) (x3 : Int) (x4 : Int) (x5 : Int) (x6 : List Int) (x7 : List Int) : Option (api_Msg × (List Int)) :=
  Option.bind (tokn_Room.f K x0) fun t_5 =>
  Option.bind (slices_Clone_sint_int.f x0.Have) fun t_13 =>
  if x2 ≥ 0 then (
  tokn_Pass.J1 K t_13 x2 x0 x1 x3 x5 t_5 x6 x7 x4 (decide (x2 < (t_13.length : Int))))
  else (
  tokn_Pass.J1 K t_13 x2 x0 x1 x3 x5 t_5 x6 x7 x4 false)

def bits_Mul32.f (x0 : UInt32) (x1 : UInt32) : Option (UInt32 × UInt32) :=
  some (toU32 (shr .u64 (wu64 ((wu64 (x0.toNat : Int)) * (wu64 (x1.toNat : Int)))) 32), toU32 (wu64 ((wu64 (x0.toNat : Int)) * (wu64 (x1.toNat : Int)))))

def bits_Mul64.f (x0 : Int) (x1 : Int) : Option (Int × Int) :=
  some (wu64 ((wu64 ((wu64 ((shr .u64 x0 32) * (shr .u64 x1 32))) + (shr .u64 (wu64 ((wu64 ((shr .u64 x0 32) * (band .u64 x1 4294967295))) + (shr .u64 (wu64 ((band .u64 x0 4294967295) * (band .u64 x1 4294967295))) 32))) 32))) + (shr .u64 (wu64 ((band .u64 (wu64 ((wu64 ((shr .u64 x0 32) * (band .u64 x1 4294967295))) + (shr .u64 (wu64 ((band .u64 x0 4294967295) * (band .u64 x1 4294967295))) 32))) 4294967295) + (wu64 ((band .u64 x0 4294967295) * (shr .u64 x1 32))))) 32)), wu64 (x0 * x1))

def bits_Mul.f (x0 : Int) (x1 : Int) : Option (Int × Int) :=
  Option.bind (bits_Mul64.f x0 x1) fun t_2 =>
  some (t_2.1, t_2.2)

def slices_Repeat_sint_int.J2 (K : Nat) (x_25 : List Int) : Option ((List Int)) :=
  some x_25
def slices_Repeat_sint_int.B1 (K : Nat) (ex_39 : (List Int) → Option ((List Int))) (again_39 : (List Int) × Int → Option ((List Int))) (x_33 : List Int) (x_38 : Int) : Option ((List Int)) :=
  if x_38 < (x_33.length : Int) then (
  Option.bind (must (0 ≤ x_38 ∧ x_38 ≤ (x_33.length : Int) ∧ (x_33.length : Int) ≤ (x_33.length : Int))) fun u_44 =>
  again_39 ((cpy x_33 (x_38).toNat (((x_33.length : Int)).toNat - (x_38).toNat) (x_33.take (x_38).toNat)), w64 (x_38 + ((min (x_33.take (x_38).toNat).length (((x_33.length : Int)).toNat - (x_38).toNat) : Nat) : Int))))
  else (
  ex_39 x_33)
def slices_Repeat_sint_int.L1 (K : Nat) (ex_39 : (List Int) → Option ((List Int))) : Nat → (List Int) × Int → Option ((List Int)) :=
  iter fun again v => slices_Repeat_sint_int.B1 K ex_39 again v.1 v.2
def slices_Repeat_sint_int.J1 (K : Nat) (t_3 : Int × Int) (x0 : List Int) (x_10 : Bool) : Option ((List Int)) :=
  if x_10 = true then (
  none)
  else (
  Option.bind (mk 17592186044416 (w64 t_3.2) 0) fun t_14 =>
  slices_Repeat_sint_int.L1 K (fun v => slices_Repeat_sint_int.J2 K v) K ((cpy t_14 0 t_14.length x0), ((min x0.length t_14.length : Nat) : Int)))
def slices_Repeat_sint_int.f (K : Nat) (x0 : List Int) (x1 : Int) : Option ((List Int)) :=
  if x1 < 0 then (
  none)
  else (
  Option.bind (bits_Mul.f (wu64 (x0.length : Int)) (wu64 x1)) fun t_3 =>
  if t_3.1 > 0 then (
  slices_Repeat_sint_int.J1 K t_3 x0 true)
  else (
  slices_Repeat_sint_int.J1 K t_3 x0 (decide (t_3.2 > 9223372036854775807))))

def tokn_First.f (K : Nat) (x0 : Int) (x1 : Int) (x2 : Int) : Option (api_Msg) :=
  Option.bind (slices_Repeat_sint_int.f K ([x2] : List Int) (mn (mx x1 1) 7)) fun t_9 =>
  some (⟨7, 0, 0, x0, 0, 0, false, 0, 0, 0, 0, ([] : List UInt8), 1, x2, t_9, ([] : List Int), 0, (⟨0, 0, (⟨0, 0, ([] : List UInt8), ([] : List UInt8), ([] : List UInt8)⟩ : api_Cmd)⟩ : api_Entry)⟩ : api_Msg)

def hocketlaw17_awake.f (K : Nat) : Option (Unit) :=
  Option.bind (tokn_First.f K 16 3 5) fun t_1 =>
  Option.bind (tokn_Pass.f K (⟨7, 0, 0, 16, 0, 0, false, 0, 0, 0, 0, ([] : List UInt8), 4, 9, ([7, 9, 8] : List Int), ([8, 9] : List Int), 0, (⟨0, 0, (⟨0, 0, ([] : List UInt8), ([] : List UInt8), ([] : List UInt8)⟩ : api_Cmd)⟩ : api_Entry)⟩ : api_Msg) 2 0 1 8 2 ([9] : List Int) ([9, 10] : List Int)) fun t_60 =>
  Option.bind (hocketref1_SameInts.f K t_1.Have ([5, 5, 5] : List Int)) fun t_94 =>
  if t_94 = true then (
  if t_1.Hop = 1 then (
  if t_1.Seq = 5 then (
  if t_1.View = 16 then (
  Option.bind (tokn_Safe.f K t_1) fun t_102 =>
  if t_102 = 5 then (
  Option.bind (tokn_Room.f K t_1) fun t_107 =>
  if t_107 = 4 then (
  Option.bind (hocketref1_SameInts.f K t_60.2 ([9] : List Int)) fun t_118 =>
  if t_118 = true then (
  if t_60.1.From = 2 then (
  if t_60.1.To = 1 then (
  if t_60.1.Hop = 5 then (
  if t_60.1.Seq = 11 then (
  Option.bind (hocketref1_SameInts.f K t_60.1.Have ([8, 9, 8] : List Int)) fun t_133 =>
  if t_133 = true then (
  Option.bind (hocketref1_SameInts.f K t_60.1.Need ([9, 10] : List Int)) fun t_144 =>
  if t_144 = true then (
  some ())
  else (
  none))
  else (
  none))
  else (
  none))
  else (
  none))
  else (
  none))
  else (
  none))
  else (
  none))
  else (
  none))
  else (
  none))
  else (
  none))
  else (
  none))
  else (
  none))
  else (
  none)

def hocketref4_SameEntry.f (x0 : api_Entry) (x1 : api_Entry) : Option (Bool) :=
  if x0.Sess = x1.Sess then (
  if x0.Seq = x1.Seq then (
  if x0.Cmd.Kind = x1.Cmd.Kind then (
  if x0.Cmd.Who = x1.Cmd.Who then (
  if x0.Cmd.Key = x1.Cmd.Key then (
  if x0.Cmd.Val = x1.Cmd.Val then (
  some (x0.Cmd.Old == x1.Cmd.Old))
  else (
  some false))
  else (
  some false))
  else (
  some false))
  else (
  some false))
  else (
  some false))
  else (
  some false)

def hocketref11_Same.f (K : Nat) (x0 : api_Msg) (x1 : api_Msg) : Option (Bool) :=
  if x0.Kind = x1.Kind then (
  if x0.From = x1.From then (
  if x0.To = x1.To then (
  if x0.View = x1.View then (
  if x0.Inst = x1.Inst then (
  if x0.Len = x1.Len then (
  if x0.Has = x1.Has then (
  if x0.Members = x1.Members then (
  if x0.Source = x1.Source then (
  if x0.At = x1.At then (
  if x0.Total = x1.Total then (
  if x0.Data = x1.Data then (
  if x0.Hop = x1.Hop then (
  if x0.Seq = x1.Seq then (
  Option.bind (hocketref1_SameInts.f K x0.Have x1.Have) fun t_20 =>
  if t_20 = true then (
  Option.bind (hocketref1_SameInts.f K x0.Need x1.Need) fun t_25 =>
  if t_25 = true then (
  if x0.Index = x1.Index then (
  Option.bind (hocketref4_SameEntry.f x0.Entry x1.Entry) fun t_31 =>
  some t_31)
  else (
  some false))
  else (
  some false))
  else (
  some false))
  else (
  some false))
  else (
  some false))
  else (
  some false))
  else (
  some false))
  else (
  some false))
  else (
  some false))
  else (
  some false))
  else (
  some false))
  else (
  some false))
  else (
  some false))
  else (
  some false))
  else (
  some false))
  else (
  some false))
  else (
  some false)

def hocketlaw17_ToknRises.J2 (K : Nat) : Option (Unit) :=
  Option.bind (hocketlaw17_awake.f K) fun t_51 =>
  some ()
def hocketlaw17_ToknRises.J8 (K : Nat) (again_80 : (List Int) × Int × Int × api_Msg → Option (Unit)) (x_56 : List Int) (t_93 : Int) (t_105 : Int) (t_110 : Int) (x_63 : api_Msg) (t_98 : Int) (t_94 : Int) (x_178 : Int) (x_62 : Int) (x_139 : api_Msg) : Option (Unit) :=
  again_80 ((x_56.set (t_93).toNat (mn (w64 (t_105 + (band .i64 (shr .i64 t_110 3) 7))) (w64 (x_63.Seq + (mn (band .i64 t_98 7) t_94))))), x_178, w64 (x_62 + 1), x_139)
def hocketlaw17_ToknRises.B2 (K : Nat) (x_139 : api_Msg) (x_178 : Int) (ex_195 : Unit → Option (Unit)) (again_195 : Int → Option (Unit)) (x_194 : Int) : Option (Unit) :=
  if x_194 < (x_139.Need.length : Int) then (
  Option.bind (ix x_139.Need x_194) fun t_202 =>
  if t_202 ≤ x_178 then (
  none)
  else (
  Option.bind (ix x_139.Need x_194) fun t_208 =>
  if t_208 > x_139.Seq then (
  none)
  else (
  again_195 (w64 (x_194 + 1)))))
  else (
  ex_195 ())
def hocketlaw17_ToknRises.L2 (K : Nat) (x_139 : api_Msg) (x_178 : Int) (ex_195 : Unit → Option (Unit)) : Nat → Int → Option (Unit) :=
  iter fun again v => hocketlaw17_ToknRises.B2 K x_139 x_178 ex_195 again v
def hocketlaw17_ToknRises.J7 (K : Nat) (x_139 : api_Msg) (x_178 : Int) (again_80 : (List Int) × Int × Int × api_Msg → Option (Unit)) (x_56 : List Int) (t_93 : Int) (t_105 : Int) (t_110 : Int) (x_63 : api_Msg) (t_98 : Int) (t_94 : Int) (x_62 : Int) (x_184 : Bool) : Option (Unit) :=
  if x_184 = true then (
  none)
  else (
  hocketlaw17_ToknRises.L2 K x_139 x_178 (fun v => hocketlaw17_ToknRises.J8 K again_80 x_56 t_93 t_105 t_110 x_63 t_98 t_94 x_178 x_62 x_139) K 0)
def hocketlaw17_ToknRises.J6 (K : Nat) (x_139 : api_Msg) (x_156 : api_Msg) (x_63 : api_Msg) (t_98 : Int) (t_94 : Int) (x_61 : Int) (again_80 : (List Int) × Int × Int × api_Msg → Option (Unit)) (x_56 : List Int) (t_93 : Int) (t_105 : Int) (t_110 : Int) (x_62 : Int) (x0 : Int) (x_178 : Int) : Option (Unit) :=
  if x_139.Hop = (w64 (x_156.Hop + 1)) then (
  if x_139.Seq = (w64 (x_63.Seq + (mn (band .i64 t_98 7) t_94))) then (
  Option.bind (tokn_Safe.f K x_139) fun t_216 =>
  if t_216 = x_178 then (
  if x_178 < x_61 then (
  hocketlaw17_ToknRises.J7 K x_139 x_178 again_80 x_56 t_93 t_105 t_110 x_63 t_98 t_94 x_62 true)
  else (
  if x_139.Seq > (w64 (x_178 + 16)) then (
  if x_139.Seq > x_156.Seq then (
  hocketlaw17_ToknRises.J7 K x_139 x_178 again_80 x_56 t_93 t_105 t_110 x_63 t_98 t_94 x_62 true)
  else (
  if (x_139.Need.length : Int) > 8 then (
  hocketlaw17_ToknRises.J7 K x_139 x_178 again_80 x_56 t_93 t_105 t_110 x_63 t_98 t_94 x_62 true)
  else (
  hocketlaw17_ToknRises.J7 K x_139 x_178 again_80 x_56 t_93 t_105 t_110 x_63 t_98 t_94 x_62 ((x_139.Have.length : Int) != (w64 ((Int.tmod (band .i64 x0 255) 7) + 1))))))
  else (
  if (x_139.Need.length : Int) > 8 then (
  hocketlaw17_ToknRises.J7 K x_139 x_178 again_80 x_56 t_93 t_105 t_110 x_63 t_98 t_94 x_62 true)
  else (
  hocketlaw17_ToknRises.J7 K x_139 x_178 again_80 x_56 t_93 t_105 t_110 x_63 t_98 t_94 x_62 ((x_139.Have.length : Int) != (w64 ((Int.tmod (band .i64 x0 255) 7) + 1)))))))
  else (
  hocketlaw17_ToknRises.J7 K x_139 x_178 again_80 x_56 t_93 t_105 t_110 x_63 t_98 t_94 x_62 true))
  else (
  hocketlaw17_ToknRises.J7 K x_139 x_178 again_80 x_56 t_93 t_105 t_110 x_63 t_98 t_94 x_62 true))
  else (
  hocketlaw17_ToknRises.J7 K x_139 x_178 again_80 x_56 t_93 t_105 t_110 x_63 t_98 t_94 x_62 true)
def hocketlaw17_ToknRises.B3 (K : Nat) (x_56 : List Int) (t_93 : Int) (t_105 : Int) (t_110 : Int) (x_63 : api_Msg) (t_98 : Int) (t_94 : Int) (ex_229 : Int → Option (Unit)) (again_229 : Int × Int → Option (Unit)) (x_227 : Int) (x_228 : Int) : Option (Unit) :=
  if x_228 < (x_56.length : Int) then (
  Option.bind (ix (x_56.set (t_93).toNat (mn (w64 (t_105 + (band .i64 (shr .i64 t_110 3) 7))) (w64 (x_63.Seq + (mn (band .i64 t_98 7) t_94))))) x_228) fun t_233 =>
  again_229 (mn x_227 t_233, w64 (x_228 + 1)))
  else (
  ex_229 x_227)
def hocketlaw17_ToknRises.L3 (K : Nat) (x_56 : List Int) (t_93 : Int) (t_105 : Int) (t_110 : Int) (x_63 : api_Msg) (t_98 : Int) (t_94 : Int) (ex_229 : Int → Option (Unit)) : Nat → Int × Int → Option (Unit) :=
  iter fun again v => hocketlaw17_ToknRises.B3 K x_56 t_93 t_105 t_110 x_63 t_98 t_94 ex_229 again v.1 v.2
def hocketlaw17_ToknRises.J5 (K : Nat) (x_56 : List Int) (t_93 : Int) (t_105 : Int) (t_110 : Int) (x_63 : api_Msg) (t_98 : Int) (t_94 : Int) (x_61 : Int) (again_80 : (List Int) × Int × Int × api_Msg → Option (Unit)) (x_62 : Int) (x0 : Int) (x_139 : api_Msg) (x_156 : api_Msg) : Option (Unit) :=
  Option.bind (ix (x_56.set (t_93).toNat (mn (w64 (t_105 + (band .i64 (shr .i64 t_110 3) 7))) (w64 (x_63.Seq + (mn (band .i64 t_98 7) t_94))))) 0) fun t_171 =>
  hocketlaw17_ToknRises.L3 K x_56 t_93 t_105 t_110 x_63 t_98 t_94 (fun v => hocketlaw17_ToknRises.J6 K x_139 x_156 x_63 t_98 t_94 x_61 again_80 x_56 t_93 t_105 t_110 x_62 x0 v) K (t_171, 0)
def hocketlaw17_ToknRises.J4 (K : Nat) (t_93 : Int) (x0 : Int) (x_56 : List Int) (t_105 : Int) (t_110 : Int) (x_63 : api_Msg) (t_98 : Int) (t_94 : Int) (x_61 : Int) (again_80 : (List Int) × Int × Int × api_Msg → Option (Unit)) (x_62 : Int) (x_129 : List Int) : Option (Unit) :=
  Option.bind (rem (w64 (t_93 + 1)) (w64 ((Int.tmod (band .i64 x0 255) 7) + 1))) fun t_239 =>
  Option.bind (ix (x_56.set (t_93).toNat (mn (w64 (t_105 + (band .i64 (shr .i64 t_110 3) 7))) (w64 (x_63.Seq + (mn (band .i64 t_98 7) t_94))))) t_93) fun t_240 =>
  Option.bind (tokn_Pass.f K x_63 t_93 t_93 t_239 t_240 (band .i64 t_98 7) ([] : List Int) x_129) fun t_248 =>
  hocketlaw17_ToknRises.J5 K x_56 t_93 t_105 t_110 x_63 t_98 t_94 x_61 again_80 x_62 x0 t_248.1 x_63
def hocketlaw17_ToknRises.J9 (K : Nat) (x_306 : List Int) (x_311 : Int) (again_312 : (List Int) × Int → Option (Unit)) (ex_312 : (List Int) → Option (Unit)) (x_318 : Bool) : Option (Unit) :=
  if x_318 = true then (
  Option.bind (app 17592186044416 x_306 ([x_311] : List Int)) fun t_328 =>
  again_312 (t_328, w64 (x_311 + 1)))
  else (
  ex_312 x_306)
def hocketlaw17_ToknRises.B4 (K : Nat) (x_63 : api_Msg) (t_98 : Int) (t_94 : Int) (ex_312 : (List Int) → Option (Unit)) (again_312 : (List Int) × Int → Option (Unit)) (x_306 : List Int) (x_311 : Int) : Option (Unit) :=
  if x_311 ≤ (w64 (x_63.Seq + (mn (band .i64 t_98 7) t_94))) then (
  hocketlaw17_ToknRises.J9 K x_306 x_311 again_312 ex_312 (decide ((x_306.length : Int) < 8)))
  else (
  hocketlaw17_ToknRises.J9 K x_306 x_311 again_312 ex_312 false)
def hocketlaw17_ToknRises.L4 (K : Nat) (x_63 : api_Msg) (t_98 : Int) (t_94 : Int) (ex_312 : (List Int) → Option (Unit)) : Nat → (List Int) × Int → Option (Unit) :=
  iter fun again v => hocketlaw17_ToknRises.B4 K x_63 t_98 t_94 ex_312 again v.1 v.2
def hocketlaw17_ToknRises.J3 (K : Nat) (x_62 : Int) (x0 : Int) (x_63 : api_Msg) (x1 : List Int) (x_56 : List Int) (x_61 : Int) (again_80 : (List Int) × Int × Int × api_Msg → Option (Unit)) (ex_80 : Unit → Option (Unit)) (x_89 : Bool) : Option (Unit) :=
  if x_89 = true then (
  Option.bind (rem x_62 (w64 ((Int.tmod (band .i64 x0 255) 7) + 1))) fun t_93 =>
  Option.bind (tokn_Room.f K x_63) fun t_94 =>
  Option.bind (ix x1 x_62) fun t_98 =>
  Option.bind (ix x_56 t_93) fun t_105 =>
  Option.bind (ix x1 x_62) fun t_110 =>
  Option.bind (ix x_56 t_93) fun t_115 =>
  Option.bind (ix (x_56.set (t_93).toNat (mn (w64 (t_105 + (band .i64 (shr .i64 t_110 3) 7))) (w64 (x_63.Seq + (mn (band .i64 t_98 7) t_94))))) t_93) fun t_123 =>
  hocketlaw17_ToknRises.L4 K x_63 t_98 t_94 (fun v => hocketlaw17_ToknRises.J4 K t_93 x0 x_56 t_105 t_110 x_63 t_98 t_94 x_61 again_80 x_62 v) K (([] : List Int), w64 (t_123 + 1)))
  else (
  ex_80 ())
def hocketlaw17_ToknRises.B1 (K : Nat) (x1 : List Int) (x0 : Int) (ex_80 : Unit → Option (Unit)) (again_80 : (List Int) × Int × Int × api_Msg → Option (Unit)) (x_56 : List Int) (x_61 : Int) (x_62 : Int) (x_63 : api_Msg) : Option (Unit) :=
  if x_62 < (x1.length : Int) then (
  hocketlaw17_ToknRises.J3 K x_62 x0 x_63 x1 x_56 x_61 again_80 ex_80 (decide (x_62 < 60)))
  else (
  hocketlaw17_ToknRises.J3 K x_62 x0 x_63 x1 x_56 x_61 again_80 ex_80 false)
def hocketlaw17_ToknRises.L1 (K : Nat) (x1 : List Int) (x0 : Int) (ex_80 : Unit → Option (Unit)) : Nat → (List Int) × Int × Int × api_Msg → Option (Unit) :=
  iter fun again v => hocketlaw17_ToknRises.B1 K x1 x0 ex_80 again v.1 v.2.1 v.2.2.1 v.2.2.2
def hocketlaw17_ToknRises.J1 (K : Nat) (x1 : List Int) (x0 : Int) (x2 : Int) (t_1 : api_Msg) (x_40 : List Int) : Option (Unit) :=
  hocketlaw17_ToknRises.L1 K x1 x0 (fun v => hocketlaw17_ToknRises.J2 K) K (x_40, band .i64 x2 255, 0, t_1)
def hocketlaw17_ToknRises.B5 (K : Nat) (t_32 : List Int) (x2 : Int) (ex_343 : (List Int) → Option (Unit)) (again_343 : (List Int) × Int → Option (Unit)) (x_337 : List Int) (x_342 : Int) : Option (Unit) :=
  if x_342 < (t_32.length : Int) then (
  Option.bind (ix x_337 x_342) fun t_347 =>
  again_343 ((x_337.set (x_342).toNat (band .i64 x2 255)), w64 (x_342 + 1)))
  else (
  ex_343 x_337)
def hocketlaw17_ToknRises.L5 (K : Nat) (t_32 : List Int) (x2 : Int) (ex_343 : (List Int) → Option (Unit)) : Nat → (List Int) × Int → Option (Unit) :=
  iter fun again v => hocketlaw17_ToknRises.B5 K t_32 x2 ex_343 again v.1 v.2
def hocketlaw17_ToknRises.f (K : Nat) (x0 : Int) (x1 : List Int) (x2 : Int) : Option (Unit) :=
  Option.bind (tokn_First.f K 8 (w64 ((Int.tmod (band .i64 x0 255) 7) + 1)) (band .i64 x2 255)) fun t_1 =>
  Option.bind (mk 17592186044416 (w64 ((Int.tmod (band .i64 x0 255) 7) + 1)) 0) fun t_32 =>
  hocketlaw17_ToknRises.L5 K t_32 x2 (fun v => hocketlaw17_ToknRises.J1 K x1 x0 x2 t_1 v) K (t_32, 0)

def gath_New.f (x0 : Int) (x1 : Int) (x2 : Int) (x3 : api_Msg) : Option (Int × Int × Int × (List api_Msg) × Int × Int × Int × Int × Int × Int × Int × Int × Bool × Int × Int × Int × Int × (List UInt8) × Int × Int × (List Int) × (List Int) × Int × Int × Int × Int × Int × (List UInt8) × (List UInt8) × (List UInt8) × Bool) :=
  Option.bind (must (0 ≤ (mn (mx x1 0) (w64 ((mn (mx x0 1) 7) - 1))))) fun u_7 =>
  some (mn (mx x0 1) 7, mn (mx x1 0) (w64 ((mn (mx x0 1) 7) - 1)), x2, ([(⟨2, mn (mx x1 0) (w64 ((mn (mx x0 1) 7) - 1)), x3.To, x3.View, x3.Inst, x3.Len, x3.Has, x3.Members, x3.Source, x3.At, x3.Total, x3.Data, x3.Hop, x3.Seq, x3.Have, x3.Need, x3.Index, x3.Entry⟩ : api_Msg)] : List api_Msg), shl .i64 1 (mn (mx x1 0) (w64 ((mn (mx x0 1) 7) - 1))), 0, 0, 0, 0, 0, 0, 0, false, 0, 0, 0, 0, ([] : List UInt8), 0, 0, ([] : List Int), ([] : List Int), 0, 0, 0, 0, 0, ([] : List UInt8), ([] : List UInt8), ([] : List UInt8), false)

def gath_Gather_Take.J1 (x0_n : Int) (x0_id : Int) (x0_v : Int) (x0_l : List api_Msg) (x0_come : Int) (x0_ready : Int) (x0_commit_Kind : Int) (x0_commit_From : Int) (x0_commit_To : Int) (x0_commit_View : Int) (x0_commit_Inst : Int) (x0_commit_Len : Int) (x0_commit_Has : Bool) (x0_commit_Members : Int) (x0_commit_Source : Int) (x0_commit_At : Int) (x0_commit_Total : Int) (x0_commit_Data : List UInt8) (x0_commit_Hop : Int) (x0_commit_Seq : Int) (x0_commit_Have : List Int) (x0_commit_Need : List Int) (x0_commit_Index : Int) (x0_commit_Entry_Sess : Int) (x0_commit_Entry_Seq : Int) (x0_commit_Entry_Cmd_Kind : Int) (x0_commit_Entry_Cmd_Who : Int) (x0_commit_Entry_Cmd_Key : List UInt8) (x0_commit_Entry_Cmd_Val : List UInt8) (x0_commit_Entry_Cmd_Old : List UInt8) (x0_is : Bool) (x1 : api_Msg) (x_6 : Bool) : Option (Bool × Int × Int × Int × (List api_Msg) × Int × Int × Int × Int × Int × Int × Int × Int × Bool × Int × Int × Int × Int × (List UInt8) × Int × Int × (List Int) × (List Int) × Int × Int × Int × Int × Int × (List UInt8) × (List UInt8) × (List UInt8) × Bool) :=
  if x_6 = true then (
  some (false, x0_n, x0_id, x0_v, x0_l, x0_come, x0_ready, x0_commit_Kind, x0_commit_From, x0_commit_To, x0_commit_View, x0_commit_Inst, x0_commit_Len, x0_commit_Has, x0_commit_Members, x0_commit_Source, x0_commit_At, x0_commit_Total, x0_commit_Data, x0_commit_Hop, x0_commit_Seq, x0_commit_Have, x0_commit_Need, x0_commit_Index, x0_commit_Entry_Sess, x0_commit_Entry_Seq, x0_commit_Entry_Cmd_Kind, x0_commit_Entry_Cmd_Who, x0_commit_Entry_Cmd_Key, x0_commit_Entry_Cmd_Val, x0_commit_Entry_Cmd_Old, x0_is))
  else (
  Option.bind (must (0 ≤ x1.From)) fun u_12 =>
  Option.bind (app 488671834567 x0_l ([x1] : List api_Msg)) fun t_22 =>
  some (true, x0_n, x0_id, x0_v, t_22, bor .i64 x0_come (shl .i64 1 x1.From), x0_ready, x0_commit_Kind, x0_commit_From, x0_commit_To, x0_commit_View, x0_commit_Inst, x0_commit_Len, x0_commit_Has, x0_commit_Members, x0_commit_Source, x0_commit_At, x0_commit_Total, x0_commit_Data, x0_commit_Hop, x0_commit_Seq, x0_commit_Have, x0_commit_Need, x0_commit_Index, x0_commit_Entry_Sess, x0_commit_Entry_Seq, x0_commit_Entry_Cmd_Kind, x0_commit_Entry_Cmd_Who, x0_commit_Entry_Cmd_Key, x0_commit_Entry_Cmd_Val, x0_commit_Entry_Cmd_Old, x0_is))
def gath_Gather_Take.f (x0_n : Int) (x0_id : Int) (x0_v : Int) (x0_l : List api_Msg) (x0_come : Int) (x0_ready : Int) (x0_commit_Kind : Int) (x0_commit_From : Int) (x0_commit_To : Int) (x0_commit_View : Int) (x0_commit_Inst : Int) (x0_commit_Len : Int) (x0_commit_Has : Bool) (x0_commit_Members : Int) (x0_commit_Source : Int) (x0_commit_At : Int) (x0_commit_Total : Int) (x0_commit_Data : List UInt8) (x0_commit_Hop : Int) (x0_commit_Seq : Int) (x0_commit_Have : List Int) (x0_commit_Need : List Int) (x0_commit_Index : Int) (x0_commit_Entry_Sess : Int) (x0_commit_Entry_Seq : Int) (x0_commit_Entry_Cmd_Kind : Int) (x0_commit_Entry_Cmd_Who : Int) (x0_commit_Entry_Cmd_Key : List UInt8) (x0_commit_Entry_Cmd_Val : List UInt8) (x0_commit_Entry_Cmd_Old : List UInt8) (x0_is : Bool) (x1 : api_Msg) : Option (Bool × Int × Int × Int × (List api_Msg) × Int × Int × Int × Int × Int × Int × Int × Int × Bool × Int × Int × Int × Int × (List UInt8) × Int × Int × (List Int) × (List Int) × Int × Int × Int × Int × Int × (List UInt8) × (List UInt8) × (List UInt8) × Bool) :=
  if x0_is = true then (
  gath_Gather_Take.J1 x0_n x0_id x0_v x0_l x0_come x0_ready x0_commit_Kind x0_commit_From x0_commit_To x0_commit_View x0_commit_Inst x0_commit_Len x0_commit_Has x0_commit_Members x0_commit_Source x0_commit_At x0_commit_Total x0_commit_Data x0_commit_Hop x0_commit_Seq x0_commit_Have x0_commit_Need x0_commit_Index x0_commit_Entry_Sess x0_commit_Entry_Seq x0_commit_Entry_Cmd_Kind x0_commit_Entry_Cmd_Who x0_commit_Entry_Cmd_Key x0_commit_Entry_Cmd_Val x0_commit_Entry_Cmd_Old x0_is x1 true)
  else (
  if x1.Kind = 2 then (
  if x1.View = x0_v then (
  if x1.From < 0 then (
  gath_Gather_Take.J1 x0_n x0_id x0_v x0_l x0_come x0_ready x0_commit_Kind x0_commit_From x0_commit_To x0_commit_View x0_commit_Inst x0_commit_Len x0_commit_Has x0_commit_Members x0_commit_Source x0_commit_At x0_commit_Total x0_commit_Data x0_commit_Hop x0_commit_Seq x0_commit_Have x0_commit_Need x0_commit_Index x0_commit_Entry_Sess x0_commit_Entry_Seq x0_commit_Entry_Cmd_Kind x0_commit_Entry_Cmd_Who x0_commit_Entry_Cmd_Key x0_commit_Entry_Cmd_Val x0_commit_Entry_Cmd_Old x0_is x1 true)
  else (
  if x1.From ≥ x0_n then (
  gath_Gather_Take.J1 x0_n x0_id x0_v x0_l x0_come x0_ready x0_commit_Kind x0_commit_From x0_commit_To x0_commit_View x0_commit_Inst x0_commit_Len x0_commit_Has x0_commit_Members x0_commit_Source x0_commit_At x0_commit_Total x0_commit_Data x0_commit_Hop x0_commit_Seq x0_commit_Have x0_commit_Need x0_commit_Index x0_commit_Entry_Sess x0_commit_Entry_Seq x0_commit_Entry_Cmd_Kind x0_commit_Entry_Cmd_Who x0_commit_Entry_Cmd_Key x0_commit_Entry_Cmd_Val x0_commit_Entry_Cmd_Old x0_is x1 true)
  else (
  Option.bind (must (0 ≤ x1.From)) fun u_48 =>
  gath_Gather_Take.J1 x0_n x0_id x0_v x0_l x0_come x0_ready x0_commit_Kind x0_commit_From x0_commit_To x0_commit_View x0_commit_Inst x0_commit_Len x0_commit_Has x0_commit_Members x0_commit_Source x0_commit_At x0_commit_Total x0_commit_Data x0_commit_Hop x0_commit_Seq x0_commit_Have x0_commit_Need x0_commit_Index x0_commit_Entry_Sess x0_commit_Entry_Seq x0_commit_Entry_Cmd_Kind x0_commit_Entry_Cmd_Who x0_commit_Entry_Cmd_Key x0_commit_Entry_Cmd_Val x0_commit_Entry_Cmd_Old x0_is x1 ((band .i64 (shr .i64 x0_come x1.From) 1) == 1))))
  else (
  gath_Gather_Take.J1 x0_n x0_id x0_v x0_l x0_come x0_ready x0_commit_Kind x0_commit_From x0_commit_To x0_commit_View x0_commit_Inst x0_commit_Len x0_commit_Has x0_commit_Members x0_commit_Source x0_commit_At x0_commit_Total x0_commit_Data x0_commit_Hop x0_commit_Seq x0_commit_Have x0_commit_Need x0_commit_Index x0_commit_Entry_Sess x0_commit_Entry_Seq x0_commit_Entry_Cmd_Kind x0_commit_Entry_Cmd_Who x0_commit_Entry_Cmd_Key x0_commit_Entry_Cmd_Val x0_commit_Entry_Cmd_Old x0_is x1 true))
  else (
  gath_Gather_Take.J1 x0_n x0_id x0_v x0_l x0_come x0_ready x0_commit_Kind x0_commit_From x0_commit_To x0_commit_View x0_commit_Inst x0_commit_Len x0_commit_Has x0_commit_Members x0_commit_Source x0_commit_At x0_commit_Total x0_commit_Data x0_commit_Hop x0_commit_Seq x0_commit_Have x0_commit_Need x0_commit_Index x0_commit_Entry_Sess x0_commit_Entry_Seq x0_commit_Entry_Cmd_Kind x0_commit_Entry_Cmd_Who x0_commit_Entry_Cmd_Key x0_commit_Entry_Cmd_Val x0_commit_Entry_Cmd_Old x0_is x1 true))

def gath_Gather_Commit.J1 (K : Nat) (x0_n : Int) (x0_id : Int) (x0_v : Int) (x0_l : List api_Msg) (x0_come : Int) (x0_ready : Int) (x_5 : Int) (x_6 : Int) (x_7 : Int) (x_8 : Int) (x_9 : Int) (x_10 : Int) (x_11 : Bool) (x_12 : Int) (x_13 : Int) (x_14 : Int) (x_15 : Int) (x_16 : List UInt8) (x_19 : Int) (x_20 : Int) (x_21 : List Int) (x_24 : List Int) (x_27 : Int) (x_28 : Int) (x_29 : Int) (x_30 : Int) (x_31 : Int) (x_32 : List UInt8) (x_35 : List UInt8) (x_38 : List UInt8) (x_41 : Bool) : Option (api_Msg × Bool × Int × Int × Int × (List api_Msg) × Int × Int × Int × Int × Int × Int × Int × Int × Bool × Int × Int × Int × Int × (List UInt8) × Int × Int × (List Int) × (List Int) × Int × Int × Int × Int × Int × (List UInt8) × (List UInt8) × (List UInt8) × Bool) :=
  some ((⟨x_5, x_6, x_7, x_8, x_9, x_10, x_11, x_12, x_13, x_14, x_15, x_16, x_19, x_20, x_21, x_24, x_27, (⟨x_28, x_29, (⟨x_30, x_31, x_32, x_35, x_38⟩ : api_Cmd)⟩ : api_Entry)⟩ : api_Msg), true, x0_n, x0_id, x0_v, x0_l, x0_come, x0_ready, x_5, x_6, x_7, x_8, x_9, x_10, x_11, x_12, x_13, x_14, x_15, x_16, x_19, x_20, x_21, x_24, x_27, x_28, x_29, x_30, x_31, x_32, x_35, x_38, x_41)
def gath_Gather_Commit.f (K : Nat) (x0_n : Int) (x0_id : Int) (x0_v : Int) (x0_l : List api_Msg) (x0_come : Int) (x0_ready : Int) (x0_commit_Kind : Int) (x0_commit_From : Int) (x0_commit_To : Int) (x0_commit_View : Int) (x0_commit_Inst : Int) (x0_commit_Len : Int) (x0_commit_Has : Bool) (x0_commit_Members : Int) (x0_commit_Source : Int) (x0_commit_At : Int) (x0_commit_Total : Int) (x0_commit_Data : List UInt8) (x0_commit_Hop : Int) (x0_commit_Seq : Int) (x0_commit_Have : List Int) (x0_commit_Need : List Int) (x0_commit_Index : Int) (x0_commit_Entry_Sess : Int) (x0_commit_Entry_Seq : Int) (x0_commit_Entry_Cmd_Kind : Int) (x0_commit_Entry_Cmd_Who : Int) (x0_commit_Entry_Cmd_Key : List UInt8) (x0_commit_Entry_Cmd_Val : List UInt8) (x0_commit_Entry_Cmd_Old : List UInt8) (x0_is : Bool) : Option (api_Msg × Bool × Int × Int × Int × (List api_Msg) × Int × Int × Int × Int × Int × Int × Int × Int × Bool × Int × Int × Int × Int × (List UInt8) × Int × Int × (List Int) × (List Int) × Int × Int × Int × Int × Int × (List UInt8) × (List UInt8) × (List UInt8) × Bool) :=
  if x0_is = true then (
  gath_Gather_Commit.J1 K x0_n x0_id x0_v x0_l x0_come x0_ready x0_commit_Kind x0_commit_From x0_commit_To x0_commit_View x0_commit_Inst x0_commit_Len x0_commit_Has x0_commit_Members x0_commit_Source x0_commit_At x0_commit_Total x0_commit_Data x0_commit_Hop x0_commit_Seq x0_commit_Have x0_commit_Need x0_commit_Index x0_commit_Entry_Sess x0_commit_Entry_Seq x0_commit_Entry_Cmd_Kind x0_commit_Entry_Cmd_Who x0_commit_Entry_Cmd_Key x0_commit_Entry_Cmd_Val x0_commit_Entry_Cmd_Old x0_is)
  else (
  Option.bind (view_Choose.f K x0_l x0_n) fun t_48 =>
  if t_48.2.2.2 = true then (
  gath_Gather_Commit.J1 K x0_n x0_id x0_v x0_l x0_come x0_ready 3 x0_id 0 x0_v 0 t_48.2.2.1 false t_48.1 t_48.2.1 0 0 ([] : List UInt8) 0 0 ([] : List Int) ([] : List Int) 0 0 0 0 0 ([] : List UInt8) ([] : List UInt8) ([] : List UInt8) true)
  else (
  some ((⟨0, 0, 0, 0, 0, 0, false, 0, 0, 0, 0, ([] : List UInt8), 0, 0, ([] : List Int), ([] : List Int), 0, (⟨0, 0, (⟨0, 0, ([] : List UInt8), ([] : List UInt8), ([] : List UInt8)⟩ : api_Cmd)⟩ : api_Entry)⟩ : api_Msg), false, x0_n, x0_id, x0_v, x0_l, x0_come, x0_ready, x0_commit_Kind, x0_commit_From, x0_commit_To, x0_commit_View, x0_commit_Inst, x0_commit_Len, x0_commit_Has, x0_commit_Members, x0_commit_Source, x0_commit_At, x0_commit_Total, x0_commit_Data, x0_commit_Hop, x0_commit_Seq, x0_commit_Have, x0_commit_Need, x0_commit_Index, x0_commit_Entry_Sess, x0_commit_Entry_Seq, x0_commit_Entry_Cmd_Kind, x0_commit_Entry_Cmd_Who, x0_commit_Entry_Cmd_Key, x0_commit_Entry_Cmd_Val, x0_commit_Entry_Cmd_Old, x0_is)))

def hocketref15_New.f (x0 : Int) (x1 : Int) (x2 : Int) (x3 : api_Msg) : Option (Int × Int × Int × (List api_Msg) × Int × Int × Int × Int × Int × Int × Bool × Int × Int × Int × Int × (List UInt8) × Int × Int × (List Int) × (List Int) × Int × Int × Int × Int × Int × (List UInt8) × (List UInt8) × (List UInt8) × Bool × Int) :=
  some (mn (mx x0 1) 7, x1, x2, ([(⟨x3.Kind, x1, x3.To, x3.View, x3.Inst, x3.Len, x3.Has, x3.Members, x3.Source, x3.At, x3.Total, x3.Data, x3.Hop, x3.Seq, x3.Have, x3.Need, x3.Index, x3.Entry⟩ : api_Msg)] : List api_Msg), 0, 0, 0, 0, 0, 0, false, 0, 0, 0, 0, ([] : List UInt8), 0, 0, ([] : List Int), ([] : List Int), 0, 0, 0, 0, 0, ([] : List UInt8), ([] : List UInt8), ([] : List UInt8), false, 0)

def hocketref15_Gather_has.J1 (K : Nat) : Option (Bool) :=
  some false
def hocketref15_Gather_has.B1 (K : Nat) (x0_l : List api_Msg) (x1 : Int) (ex_7 : Unit → Option (Bool)) (again_7 : Int → Option (Bool)) (x_6 : Int) : Option (Bool) :=
  if x_6 < (x0_l.length : Int) then (
  Option.bind (ix x0_l x_6) fun t_12 =>
  if t_12.From = x1 then (
  some true)
  else (
  again_7 (w64 (x_6 + 1))))
  else (
  ex_7 ())
def hocketref15_Gather_has.L1 (K : Nat) (x0_l : List api_Msg) (x1 : Int) (ex_7 : Unit → Option (Bool)) : Nat → Int → Option (Bool) :=
  iter fun again v => hocketref15_Gather_has.B1 K x0_l x1 ex_7 again v
def hocketref15_Gather_has.f (K : Nat) (x0_n : Int) (x0_id : Int) (x0_v : Int) (x0_l : List api_Msg) (x0_commit_Kind : Int) (x0_commit_From : Int) (x0_commit_To : Int) (x0_commit_View : Int) (x0_commit_Inst : Int) (x0_commit_Len : Int) (x0_commit_Has : Bool) (x0_commit_Members : Int) (x0_commit_Source : Int) (x0_commit_At : Int) (x0_commit_Total : Int) (x0_commit_Data : List UInt8) (x0_commit_Hop : Int) (x0_commit_Seq : Int) (x0_commit_Have : List Int) (x0_commit_Need : List Int) (x0_commit_Index : Int) (x0_commit_Entry_Sess : Int) (x0_commit_Entry_Seq : Int) (x0_commit_Entry_Cmd_Kind : Int) (x0_commit_Entry_Cmd_Who : Int) (x0_commit_Entry_Cmd_Key : List UInt8) (x0_commit_Entry_Cmd_Val : List UInt8) (x0_commit_Entry_Cmd_Old : List UInt8) (x0_sure : Bool) (x0_ready : Int) (x1 : Int) : Option (Bool) :=
  hocketref15_Gather_has.L1 K x0_l x1 (fun v => hocketref15_Gather_has.J1 K) K 0

def hocketref15_Gather_Take.J1 (K : Nat) (x0_n : Int) (x0_id : Int) (x0_v : Int) (x0_l : List api_Msg) (x0_commit_Kind : Int) (x0_commit_From : Int) (x0_commit_To : Int) (x0_commit_View : Int) (x0_commit_Inst : Int) (x0_commit_Len : Int) (x0_commit_Has : Bool) (x0_commit_Members : Int) (x0_commit_Source : Int) (x0_commit_At : Int) (x0_commit_Total : Int) (x0_commit_Data : List UInt8) (x0_commit_Hop : Int) (x0_commit_Seq : Int) (x0_commit_Have : List Int) (x0_commit_Need : List Int) (x0_commit_Index : Int) (x0_commit_Entry_Sess : Int) (x0_commit_Entry_Seq : Int) (x0_commit_Entry_Cmd_Kind : Int) (x0_commit_Entry_Cmd_Who : Int) (x0_commit_Entry_Cmd_Key : List UInt8) (x0_commit_Entry_Cmd_Val : List UInt8) (x0_commit_Entry_Cmd_Old : List UInt8) (x0_sure : Bool) (x0_ready : Int) (x1 : api_Msg) (x_6 : Bool) : Option (Bool × Int × Int × Int × (List api_Msg) × Int × Int × Int × Int × Int × Int × Bool × Int × Int × Int × Int × (List UInt8) × Int × Int × (List Int) × (List Int) × Int × Int × Int × Int × Int × (List UInt8) × (List UInt8) × (List UInt8) × Bool × Int) :=
  if x_6 = true then (
  some (false, x0_n, x0_id, x0_v, x0_l, x0_commit_Kind, x0_commit_From, x0_commit_To, x0_commit_View, x0_commit_Inst, x0_commit_Len, x0_commit_Has, x0_commit_Members, x0_commit_Source, x0_commit_At, x0_commit_Total, x0_commit_Data, x0_commit_Hop, x0_commit_Seq, x0_commit_Have, x0_commit_Need, x0_commit_Index, x0_commit_Entry_Sess, x0_commit_Entry_Seq, x0_commit_Entry_Cmd_Kind, x0_commit_Entry_Cmd_Who, x0_commit_Entry_Cmd_Key, x0_commit_Entry_Cmd_Val, x0_commit_Entry_Cmd_Old, x0_sure, x0_ready))
  else (
  Option.bind (app 488671834567 ([] : List api_Msg) x0_l) fun t_18 =>
  Option.bind (app 488671834567 t_18 ([x1] : List api_Msg)) fun t_30 =>
  some (true, x0_n, x0_id, x0_v, t_30, x0_commit_Kind, x0_commit_From, x0_commit_To, x0_commit_View, x0_commit_Inst, x0_commit_Len, x0_commit_Has, x0_commit_Members, x0_commit_Source, x0_commit_At, x0_commit_Total, x0_commit_Data, x0_commit_Hop, x0_commit_Seq, x0_commit_Have, x0_commit_Need, x0_commit_Index, x0_commit_Entry_Sess, x0_commit_Entry_Seq, x0_commit_Entry_Cmd_Kind, x0_commit_Entry_Cmd_Who, x0_commit_Entry_Cmd_Key, x0_commit_Entry_Cmd_Val, x0_commit_Entry_Cmd_Old, x0_sure, x0_ready))
def hocketref15_Gather_Take.f (K : Nat) (x0_n : Int) (x0_id : Int) (x0_v : Int) (x0_l : List api_Msg) (x0_commit_Kind : Int) (x0_commit_From : Int) (x0_commit_To : Int) (x0_commit_View : Int) (x0_commit_Inst : Int) (x0_commit_Len : Int) (x0_commit_Has : Bool) (x0_commit_Members : Int) (x0_commit_Source : Int) (x0_commit_At : Int) (x0_commit_Total : Int) (x0_commit_Data : List UInt8) (x0_commit_Hop : Int) (x0_commit_Seq : Int) (x0_commit_Have : List Int) (x0_commit_Need : List Int) (x0_commit_Index : Int) (x0_commit_Entry_Sess : Int) (x0_commit_Entry_Seq : Int) (x0_commit_Entry_Cmd_Kind : Int) (x0_commit_Entry_Cmd_Who : Int) (x0_commit_Entry_Cmd_Key : List UInt8) (x0_commit_Entry_Cmd_Val : List UInt8) (x0_commit_Entry_Cmd_Old : List UInt8) (x0_sure : Bool) (x0_ready : Int) (x1 : api_Msg) : Option (Bool × Int × Int × Int × (List api_Msg) × Int × Int × Int × Int × Int × Int × Bool × Int × Int × Int × Int × (List UInt8) × Int × Int × (List Int) × (List Int) × Int × Int × Int × Int × Int × (List UInt8) × (List UInt8) × (List UInt8) × Bool × Int) :=
  if x0_sure = true then (
  hocketref15_Gather_Take.J1 K x0_n x0_id x0_v x0_l x0_commit_Kind x0_commit_From x0_commit_To x0_commit_View x0_commit_Inst x0_commit_Len x0_commit_Has x0_commit_Members x0_commit_Source x0_commit_At x0_commit_Total x0_commit_Data x0_commit_Hop x0_commit_Seq x0_commit_Have x0_commit_Need x0_commit_Index x0_commit_Entry_Sess x0_commit_Entry_Seq x0_commit_Entry_Cmd_Kind x0_commit_Entry_Cmd_Who x0_commit_Entry_Cmd_Key x0_commit_Entry_Cmd_Val x0_commit_Entry_Cmd_Old x0_sure x0_ready x1 true)
  else (
  if x1.Kind = 2 then (
  if x1.View = x0_v then (
  if x1.From < 0 then (
  hocketref15_Gather_Take.J1 K x0_n x0_id x0_v x0_l x0_commit_Kind x0_commit_From x0_commit_To x0_commit_View x0_commit_Inst x0_commit_Len x0_commit_Has x0_commit_Members x0_commit_Source x0_commit_At x0_commit_Total x0_commit_Data x0_commit_Hop x0_commit_Seq x0_commit_Have x0_commit_Need x0_commit_Index x0_commit_Entry_Sess x0_commit_Entry_Seq x0_commit_Entry_Cmd_Kind x0_commit_Entry_Cmd_Who x0_commit_Entry_Cmd_Key x0_commit_Entry_Cmd_Val x0_commit_Entry_Cmd_Old x0_sure x0_ready x1 true)
  else (
  if x1.From ≥ x0_n then (
  hocketref15_Gather_Take.J1 K x0_n x0_id x0_v x0_l x0_commit_Kind x0_commit_From x0_commit_To x0_commit_View x0_commit_Inst x0_commit_Len x0_commit_Has x0_commit_Members x0_commit_Source x0_commit_At x0_commit_Total x0_commit_Data x0_commit_Hop x0_commit_Seq x0_commit_Have x0_commit_Need x0_commit_Index x0_commit_Entry_Sess x0_commit_Entry_Seq x0_commit_Entry_Cmd_Kind x0_commit_Entry_Cmd_Who x0_commit_Entry_Cmd_Key x0_commit_Entry_Cmd_Val x0_commit_Entry_Cmd_Old x0_sure x0_ready x1 true)
  else (
  Option.bind (hocketref15_Gather_has.f K x0_n x0_id x0_v x0_l x0_commit_Kind x0_commit_From x0_commit_To x0_commit_View x0_commit_Inst x0_commit_Len x0_commit_Has x0_commit_Members x0_commit_Source x0_commit_At x0_commit_Total x0_commit_Data x0_commit_Hop x0_commit_Seq x0_commit_Have x0_commit_Need x0_commit_Index x0_commit_Entry_Sess x0_commit_Entry_Seq x0_commit_Entry_Cmd_Kind x0_commit_Entry_Cmd_Who x0_commit_Entry_Cmd_Key x0_commit_Entry_Cmd_Val x0_commit_Entry_Cmd_Old x0_sure x0_ready x1.From) fun t_194 =>
  hocketref15_Gather_Take.J1 K x0_n x0_id x0_v x0_l x0_commit_Kind x0_commit_From x0_commit_To x0_commit_View x0_commit_Inst x0_commit_Len x0_commit_Has x0_commit_Members x0_commit_Source x0_commit_At x0_commit_Total x0_commit_Data x0_commit_Hop x0_commit_Seq x0_commit_Have x0_commit_Need x0_commit_Index x0_commit_Entry_Sess x0_commit_Entry_Seq x0_commit_Entry_Cmd_Kind x0_commit_Entry_Cmd_Who x0_commit_Entry_Cmd_Key x0_commit_Entry_Cmd_Val x0_commit_Entry_Cmd_Old x0_sure x0_ready x1 t_194)))
  else (
  hocketref15_Gather_Take.J1 K x0_n x0_id x0_v x0_l x0_commit_Kind x0_commit_From x0_commit_To x0_commit_View x0_commit_Inst x0_commit_Len x0_commit_Has x0_commit_Members x0_commit_Source x0_commit_At x0_commit_Total x0_commit_Data x0_commit_Hop x0_commit_Seq x0_commit_Have x0_commit_Need x0_commit_Index x0_commit_Entry_Sess x0_commit_Entry_Seq x0_commit_Entry_Cmd_Kind x0_commit_Entry_Cmd_Who x0_commit_Entry_Cmd_Key x0_commit_Entry_Cmd_Val x0_commit_Entry_Cmd_Old x0_sure x0_ready x1 true))
  else (
  hocketref15_Gather_Take.J1 K x0_n x0_id x0_v x0_l x0_commit_Kind x0_commit_From x0_commit_To x0_commit_View x0_commit_Inst x0_commit_Len x0_commit_Has x0_commit_Members x0_commit_Source x0_commit_At x0_commit_Total x0_commit_Data x0_commit_Hop x0_commit_Seq x0_commit_Have x0_commit_Need x0_commit_Index x0_commit_Entry_Sess x0_commit_Entry_Seq x0_commit_Entry_Cmd_Kind x0_commit_Entry_Cmd_Who x0_commit_Entry_Cmd_Key x0_commit_Entry_Cmd_Val x0_commit_Entry_Cmd_Old x0_sure x0_ready x1 true))

def hocketref15_Gather_Commit.J1 (K : Nat) (x0_n : Int) (x0_id : Int) (x0_v : Int) (x0_l : List api_Msg) (x0_ready : Int) (x_5 : Int) (x_6 : Int) (x_7 : Int) (x_8 : Int) (x_9 : Int) (x_10 : Int) (x_11 : Bool) (x_12 : Int) (x_13 : Int) (x_14 : Int) (x_15 : Int) (x_16 : List UInt8) (x_19 : Int) (x_20 : Int) (x_21 : List Int) (x_24 : List Int) (x_27 : Int) (x_28 : Int) (x_29 : Int) (x_30 : Int) (x_31 : Int) (x_32 : List UInt8) (x_35 : List UInt8) (x_38 : List UInt8) (x_41 : Bool) : Option (api_Msg × Bool × Int × Int × Int × (List api_Msg) × Int × Int × Int × Int × Int × Int × Bool × Int × Int × Int × Int × (List UInt8) × Int × Int × (List Int) × (List Int) × Int × Int × Int × Int × Int × (List UInt8) × (List UInt8) × (List UInt8) × Bool × Int) :=
  some ((⟨x_5, x_6, x_7, x_8, x_9, x_10, x_11, x_12, x_13, x_14, x_15, x_16, x_19, x_20, x_21, x_24, x_27, (⟨x_28, x_29, (⟨x_30, x_31, x_32, x_35, x_38⟩ : api_Cmd)⟩ : api_Entry)⟩ : api_Msg), true, x0_n, x0_id, x0_v, x0_l, x_5, x_6, x_7, x_8, x_9, x_10, x_11, x_12, x_13, x_14, x_15, x_16, x_19, x_20, x_21, x_24, x_27, x_28, x_29, x_30, x_31, x_32, x_35, x_38, x_41, x0_ready)
def hocketref15_Gather_Commit.f (K : Nat) (x0_n : Int) (x0_id : Int) (x0_v : Int) (x0_l : List api_Msg) (x0_commit_Kind : Int) (x0_commit_From : Int) (x0_commit_To : Int) (x0_commit_View : Int) (x0_commit_Inst : Int) (x0_commit_Len : Int) (x0_commit_Has : Bool) (x0_commit_Members : Int) (x0_commit_Source : Int) (x0_commit_At : Int) (x0_commit_Total : Int) (x0_commit_Data : List UInt8) (x0_commit_Hop : Int) (x0_commit_Seq : Int) (x0_commit_Have : List Int) (x0_commit_Need : List Int) (x0_commit_Index : Int) (x0_commit_Entry_Sess : Int) (x0_commit_Entry_Seq : Int) (x0_commit_Entry_Cmd_Kind : Int) (x0_commit_Entry_Cmd_Who : Int) (x0_commit_Entry_Cmd_Key : List UInt8) (x0_commit_Entry_Cmd_Val : List UInt8) (x0_commit_Entry_Cmd_Old : List UInt8) (x0_sure : Bool) (x0_ready : Int) : Option (api_Msg × Bool × Int × Int × Int × (List api_Msg) × Int × Int × Int × Int × Int × Int × Bool × Int × Int × Int × Int × (List UInt8) × Int × Int × (List Int) × (List Int) × Int × Int × Int × Int × Int × (List UInt8) × (List UInt8) × (List UInt8) × Bool × Int) :=
  if x0_sure = true then (
  hocketref15_Gather_Commit.J1 K x0_n x0_id x0_v x0_l x0_ready x0_commit_Kind x0_commit_From x0_commit_To x0_commit_View x0_commit_Inst x0_commit_Len x0_commit_Has x0_commit_Members x0_commit_Source x0_commit_At x0_commit_Total x0_commit_Data x0_commit_Hop x0_commit_Seq x0_commit_Have x0_commit_Need x0_commit_Index x0_commit_Entry_Sess x0_commit_Entry_Seq x0_commit_Entry_Cmd_Kind x0_commit_Entry_Cmd_Who x0_commit_Entry_Cmd_Key x0_commit_Entry_Cmd_Val x0_commit_Entry_Cmd_Old x0_sure)
  else (
  Option.bind (hocketref11_Choose.f K x0_l x0_n) fun t_48 =>
  if t_48.2.2.2 = true then (
  hocketref15_Gather_Commit.J1 K x0_n x0_id x0_v x0_l x0_ready 3 x0_id 0 x0_v 0 t_48.2.2.1 false t_48.1 t_48.2.1 0 0 ([] : List UInt8) 0 0 ([] : List Int) ([] : List Int) 0 0 0 0 0 ([] : List UInt8) ([] : List UInt8) ([] : List UInt8) true)
  else (
  some ((⟨0, 0, 0, 0, 0, 0, false, 0, 0, 0, 0, ([] : List UInt8), 0, 0, ([] : List Int), ([] : List Int), 0, (⟨0, 0, (⟨0, 0, ([] : List UInt8), ([] : List UInt8), ([] : List UInt8)⟩ : api_Cmd)⟩ : api_Entry)⟩ : api_Msg), false, x0_n, x0_id, x0_v, x0_l, x0_commit_Kind, x0_commit_From, x0_commit_To, x0_commit_View, x0_commit_Inst, x0_commit_Len, x0_commit_Has, x0_commit_Members, x0_commit_Source, x0_commit_At, x0_commit_Total, x0_commit_Data, x0_commit_Hop, x0_commit_Seq, x0_commit_Have, x0_commit_Need, x0_commit_Index, x0_commit_Entry_Sess, x0_commit_Entry_Seq, x0_commit_Entry_Cmd_Kind, x0_commit_Entry_Cmd_Who, x0_commit_Entry_Cmd_Key, x0_commit_Entry_Cmd_Val, x0_commit_Entry_Cmd_Old, x0_sure, x0_ready)))

def hocketref15_Gather_Ready.J1 (x0_n : Int) (x0_id : Int) (x0_v : Int) (x0_l : List api_Msg) (x0_commit_Kind : Int) (x0_commit_From : Int) (x0_commit_To : Int) (x0_commit_View : Int) (x0_commit_Inst : Int) (x0_commit_Len : Int) (x0_commit_Has : Bool) (x0_commit_Members : Int) (x0_commit_Source : Int) (x0_commit_At : Int) (x0_commit_Total : Int) (x0_commit_Data : List UInt8) (x0_commit_Hop : Int) (x0_commit_Seq : Int) (x0_commit_Have : List Int) (x0_commit_Need : List Int) (x0_commit_Index : Int) (x0_commit_Entry_Sess : Int) (x0_commit_Entry_Seq : Int) (x0_commit_Entry_Cmd_Kind : Int) (x0_commit_Entry_Cmd_Who : Int) (x0_commit_Entry_Cmd_Key : List UInt8) (x0_commit_Entry_Cmd_Val : List UInt8) (x0_commit_Entry_Cmd_Old : List UInt8) (x0_sure : Bool) (x0_ready : Int) (x1 : Int) (x_4 : Bool) : Option (Bool × Int × Int × Int × (List api_Msg) × Int × Int × Int × Int × Int × Int × Bool × Int × Int × Int × Int × (List UInt8) × Int × Int × (List Int) × (List Int) × Int × Int × Int × Int × Int × (List UInt8) × (List UInt8) × (List UInt8) × Bool × Int) :=
  if x_4 = true then (
  some (false, x0_n, x0_id, x0_v, x0_l, x0_commit_Kind, x0_commit_From, x0_commit_To, x0_commit_View, x0_commit_Inst, x0_commit_Len, x0_commit_Has, x0_commit_Members, x0_commit_Source, x0_commit_At, x0_commit_Total, x0_commit_Data, x0_commit_Hop, x0_commit_Seq, x0_commit_Have, x0_commit_Need, x0_commit_Index, x0_commit_Entry_Sess, x0_commit_Entry_Seq, x0_commit_Entry_Cmd_Kind, x0_commit_Entry_Cmd_Who, x0_commit_Entry_Cmd_Key, x0_commit_Entry_Cmd_Val, x0_commit_Entry_Cmd_Old, x0_sure, x0_ready))
  else (
  some (true, x0_n, x0_id, x0_v, x0_l, x0_commit_Kind, x0_commit_From, x0_commit_To, x0_commit_View, x0_commit_Inst, x0_commit_Len, x0_commit_Has, x0_commit_Members, x0_commit_Source, x0_commit_At, x0_commit_Total, x0_commit_Data, x0_commit_Hop, x0_commit_Seq, x0_commit_Have, x0_commit_Need, x0_commit_Index, x0_commit_Entry_Sess, x0_commit_Entry_Seq, x0_commit_Entry_Cmd_Kind, x0_commit_Entry_Cmd_Who, x0_commit_Entry_Cmd_Key, x0_commit_Entry_Cmd_Val, x0_commit_Entry_Cmd_Old, x0_sure, bor .i64 x0_ready (shl .i64 1 (wu64 x1))))
def hocketref15_Gather_Ready.f (x0_n : Int) (x0_id : Int) (x0_v : Int) (x0_l : List api_Msg) (x0_commit_Kind : Int) (x0_commit_From : Int) (x0_commit_To : Int) (x0_commit_View : Int) (x0_commit_Inst : Int) (x0_commit_Len : Int) (x0_commit_Has : Bool) (x0_commit_Members : Int) (x0_commit_Source : Int) (x0_commit_At : Int) (x0_commit_Total : Int) (x0_commit_Data : List UInt8) (x0_commit_Hop : Int) (x0_commit_Seq : Int) (x0_commit_Have : List Int) (x0_commit_Need : List Int) (x0_commit_Index : Int) (x0_commit_Entry_Sess : Int) (x0_commit_Entry_Seq : Int) (x0_commit_Entry_Cmd_Kind : Int) (x0_commit_Entry_Cmd_Who : Int) (x0_commit_Entry_Cmd_Key : List UInt8) (x0_commit_Entry_Cmd_Val : List UInt8) (x0_commit_Entry_Cmd_Old : List UInt8) (x0_sure : Bool) (x0_ready : Int) (x1 : Int) : Option (Bool × Int × Int × Int × (List api_Msg) × Int × Int × Int × Int × Int × Int × Bool × Int × Int × Int × Int × (List UInt8) × Int × Int × (List Int) × (List Int) × Int × Int × Int × Int × Int × (List UInt8) × (List UInt8) × (List UInt8) × Bool × Int) :=
  if x0_sure = true then (
  if x1 < 0 then (
  hocketref15_Gather_Ready.J1 x0_n x0_id x0_v x0_l x0_commit_Kind x0_commit_From x0_commit_To x0_commit_View x0_commit_Inst x0_commit_Len x0_commit_Has x0_commit_Members x0_commit_Source x0_commit_At x0_commit_Total x0_commit_Data x0_commit_Hop x0_commit_Seq x0_commit_Have x0_commit_Need x0_commit_Index x0_commit_Entry_Sess x0_commit_Entry_Seq x0_commit_Entry_Cmd_Kind x0_commit_Entry_Cmd_Who x0_commit_Entry_Cmd_Key x0_commit_Entry_Cmd_Val x0_commit_Entry_Cmd_Old x0_sure x0_ready x1 true)
  else (
  if x1 > 6 then (
  hocketref15_Gather_Ready.J1 x0_n x0_id x0_v x0_l x0_commit_Kind x0_commit_From x0_commit_To x0_commit_View x0_commit_Inst x0_commit_Len x0_commit_Has x0_commit_Members x0_commit_Source x0_commit_At x0_commit_Total x0_commit_Data x0_commit_Hop x0_commit_Seq x0_commit_Have x0_commit_Need x0_commit_Index x0_commit_Entry_Sess x0_commit_Entry_Seq x0_commit_Entry_Cmd_Kind x0_commit_Entry_Cmd_Who x0_commit_Entry_Cmd_Key x0_commit_Entry_Cmd_Val x0_commit_Entry_Cmd_Old x0_sure x0_ready x1 true)
  else (
  if (band .i64 (shr .i64 x0_commit_Members (wu64 x1)) 1) = 0 then (
  hocketref15_Gather_Ready.J1 x0_n x0_id x0_v x0_l x0_commit_Kind x0_commit_From x0_commit_To x0_commit_View x0_commit_Inst x0_commit_Len x0_commit_Has x0_commit_Members x0_commit_Source x0_commit_At x0_commit_Total x0_commit_Data x0_commit_Hop x0_commit_Seq x0_commit_Have x0_commit_Need x0_commit_Index x0_commit_Entry_Sess x0_commit_Entry_Seq x0_commit_Entry_Cmd_Kind x0_commit_Entry_Cmd_Who x0_commit_Entry_Cmd_Key x0_commit_Entry_Cmd_Val x0_commit_Entry_Cmd_Old x0_sure x0_ready x1 true)
  else (
  hocketref15_Gather_Ready.J1 x0_n x0_id x0_v x0_l x0_commit_Kind x0_commit_From x0_commit_To x0_commit_View x0_commit_Inst x0_commit_Len x0_commit_Has x0_commit_Members x0_commit_Source x0_commit_At x0_commit_Total x0_commit_Data x0_commit_Hop x0_commit_Seq x0_commit_Have x0_commit_Need x0_commit_Index x0_commit_Entry_Sess x0_commit_Entry_Seq x0_commit_Entry_Cmd_Kind x0_commit_Entry_Cmd_Who x0_commit_Entry_Cmd_Key x0_commit_Entry_Cmd_Val x0_commit_Entry_Cmd_Old x0_sure x0_ready x1 ((band .i64 (shr .i64 x0_ready (wu64 x1)) 1) == 1)))))
  else (
  hocketref15_Gather_Ready.J1 x0_n x0_id x0_v x0_l x0_commit_Kind x0_commit_From x0_commit_To x0_commit_View x0_commit_Inst x0_commit_Len x0_commit_Has x0_commit_Members x0_commit_Source x0_commit_At x0_commit_Total x0_commit_Data x0_commit_Hop x0_commit_Seq x0_commit_Have x0_commit_Need x0_commit_Index x0_commit_Entry_Sess x0_commit_Entry_Seq x0_commit_Entry_Cmd_Kind x0_commit_Entry_Cmd_Who x0_commit_Entry_Cmd_Key x0_commit_Entry_Cmd_Val x0_commit_Entry_Cmd_Old x0_sure x0_ready x1 true)

def hocketref15_Gather_Absent.J1 (K : Nat) (x_3 : List Int) : Option ((List Int)) :=
  some x_3
def hocketref15_Gather_Absent.B1 (K : Nat) (x0_n : Int) (x0_id : Int) (x0_v : Int) (x0_l : List api_Msg) (x0_commit_Kind : Int) (x0_commit_From : Int) (x0_commit_To : Int) (x0_commit_View : Int) (x0_commit_Inst : Int) (x0_commit_Len : Int) (x0_commit_Has : Bool) (x0_commit_Members : Int) (x0_commit_Source : Int) (x0_commit_At : Int) (x0_commit_Total : Int) (x0_commit_Data : List UInt8) (x0_commit_Hop : Int) (x0_commit_Seq : Int) (x0_commit_Have : List Int) (x0_commit_Need : List Int) (x0_commit_Index : Int) (x0_commit_Entry_Sess : Int) (x0_commit_Entry_Seq : Int) (x0_commit_Entry_Cmd_Kind : Int) (x0_commit_Entry_Cmd_Who : Int) (x0_commit_Entry_Cmd_Key : List UInt8) (x0_commit_Entry_Cmd_Val : List UInt8) (x0_commit_Entry_Cmd_Old : List UInt8) (x0_sure : Bool) (x0_ready : Int) (ex_17 : (List Int) → Option ((List Int))) (again_17 : (List Int) × Int → Option ((List Int))) (x_11 : List Int) (x_16 : Int) : Option ((List Int)) :=
  if x_16 < x0_n then (
  Option.bind (hocketref15_Gather_has.f K x0_n x0_id x0_v x0_l x0_commit_Kind x0_commit_From x0_commit_To x0_commit_View x0_commit_Inst x0_commit_Len x0_commit_Has x0_commit_Members x0_commit_Source x0_commit_At x0_commit_Total x0_commit_Data x0_commit_Hop x0_commit_Seq x0_commit_Have x0_commit_Need x0_commit_Index x0_commit_Entry_Sess x0_commit_Entry_Seq x0_commit_Entry_Cmd_Kind x0_commit_Entry_Cmd_Who x0_commit_Entry_Cmd_Key x0_commit_Entry_Cmd_Val x0_commit_Entry_Cmd_Old x0_sure x0_ready x_16) fun t_23 =>
  if t_23 = true then (
  again_17 (x_11, w64 (x_16 + 1)))
  else (
  Option.bind (app 17592186044416 x_11 ([x_16] : List Int)) fun t_34 =>
  again_17 (t_34, w64 (x_16 + 1))))
  else (
  ex_17 x_11)
def hocketref15_Gather_Absent.L1 (K : Nat) (x0_n : Int) (x0_id : Int) (x0_v : Int) (x0_l : List api_Msg) (x0_commit_Kind : Int) (x0_commit_From : Int) (x0_commit_To : Int) (x0_commit_View : Int) (x0_commit_Inst : Int) (x0_commit_Len : Int) (x0_commit_Has : Bool) (x0_commit_Members : Int) (x0_commit_Source : Int) (x0_commit_At : Int) (x0_commit_Total : Int) (x0_commit_Data : List UInt8) (x0_commit_Hop : Int) (x0_commit_Seq : Int) (x0_commit_Have : List Int) (x0_commit_Need : List Int) (x0_commit_Index : Int) (x0_commit_Entry_Sess : Int) (x0_commit_Entry_Seq : Int) (x0_commit_Entry_Cmd_Kind : Int) (x0_commit_Entry_Cmd_Who : Int) (x0_commit_Entry_Cmd_Key : List UInt8) (x0_commit_Entry_Cmd_Val : List UInt8) (x0_commit_Entry_Cmd_Old : List UInt8) (x0_sure : Bool) (x0_ready : Int) (ex_17 : (List Int) → Option ((List Int))) : Nat → (List Int) × Int → Option ((List Int)) :=
  iter fun again v => hocketref15_Gather_Absent.B1 K x0_n x0_id x0_v x0_l x0_commit_Kind x0_commit_From x0_commit_To x0_commit_View x0_commit_Inst x0_commit_Len x0_commit_Has x0_commit_Members x0_commit_Source x0_commit_At x0_commit_Total x0_commit_Data x0_commit_Hop x0_commit_Seq x0_commit_Have x0_commit_Need x0_commit_Index x0_commit_Entry_Sess x0_commit_Entry_Seq x0_commit_Entry_Cmd_Kind x0_commit_Entry_Cmd_Who x0_commit_Entry_Cmd_Key x0_commit_Entry_Cmd_Val x0_commit_Entry_Cmd_Old x0_sure x0_ready ex_17 again v.1 v.2
def hocketref15_Gather_Absent.f (K : Nat) (x0_n : Int) (x0_id : Int) (x0_v : Int) (x0_l : List api_Msg) (x0_commit_Kind : Int) (x0_commit_From : Int) (x0_commit_To : Int) (x0_commit_View : Int) (x0_commit_Inst : Int) (x0_commit_Len : Int) (x0_commit_Has : Bool) (x0_commit_Members : Int) (x0_commit_Source : Int) (x0_commit_At : Int) (x0_commit_Total : Int) (x0_commit_Data : List UInt8) (x0_commit_Hop : Int) (x0_commit_Seq : Int) (x0_commit_Have : List Int) (x0_commit_Need : List Int) (x0_commit_Index : Int) (x0_commit_Entry_Sess : Int) (x0_commit_Entry_Seq : Int) (x0_commit_Entry_Cmd_Kind : Int) (x0_commit_Entry_Cmd_Who : Int) (x0_commit_Entry_Cmd_Key : List UInt8) (x0_commit_Entry_Cmd_Val : List UInt8) (x0_commit_Entry_Cmd_Old : List UInt8) (x0_sure : Bool) (x0_ready : Int) : Option ((List Int)) :=
  hocketref15_Gather_Absent.L1 K x0_n x0_id x0_v x0_l x0_commit_Kind x0_commit_From x0_commit_To x0_commit_View x0_commit_Inst x0_commit_Len x0_commit_Has x0_commit_Members x0_commit_Source x0_commit_At x0_commit_Total x0_commit_Data x0_commit_Hop x0_commit_Seq x0_commit_Have x0_commit_Need x0_commit_Index x0_commit_Entry_Sess x0_commit_Entry_Seq x0_commit_Entry_Cmd_Kind x0_commit_Entry_Cmd_Who x0_commit_Entry_Cmd_Key x0_commit_Entry_Cmd_Val x0_commit_Entry_Cmd_Old x0_sure x0_ready (fun v => hocketref15_Gather_Absent.J1 K v) K (([] : List Int), 0)

def hocketref15_Gather_Unready.f (K : Nat) (x0_n : Int) (x0_id : Int) (x0_v : Int) (x0_l : List api_Msg) (x0_commit_Kind : Int) (x0_commit_From : Int) (x0_commit_To : Int) (x0_commit_View : Int) (x0_commit_Inst : Int) (x0_commit_Len : Int) (x0_commit_Has : Bool) (x0_commit_Members : Int) (x0_commit_Source : Int) (x0_commit_At : Int) (x0_commit_Total : Int) (x0_commit_Data : List UInt8) (x0_commit_Hop : Int) (x0_commit_Seq : Int) (x0_commit_Have : List Int) (x0_commit_Need : List Int) (x0_commit_Index : Int) (x0_commit_Entry_Sess : Int) (x0_commit_Entry_Seq : Int) (x0_commit_Entry_Cmd_Kind : Int) (x0_commit_Entry_Cmd_Who : Int) (x0_commit_Entry_Cmd_Key : List UInt8) (x0_commit_Entry_Cmd_Val : List UInt8) (x0_commit_Entry_Cmd_Old : List UInt8) (x0_sure : Bool) (x0_ready : Int) : Option ((List Int)) :=
  if x0_sure = true then (
  Option.bind (hocketref11_Members.f K (bandn .i64 x0_commit_Members x0_ready)) fun t_5 =>
  some t_5)
  else (
  some ([] : List Int))

def hocketref15_Gather_Done.f (x0_n : Int) (x0_id : Int) (x0_v : Int) (x0_l : List api_Msg) (x0_commit_Kind : Int) (x0_commit_From : Int) (x0_commit_To : Int) (x0_commit_View : Int) (x0_commit_Inst : Int) (x0_commit_Len : Int) (x0_commit_Has : Bool) (x0_commit_Members : Int) (x0_commit_Source : Int) (x0_commit_At : Int) (x0_commit_Total : Int) (x0_commit_Data : List UInt8) (x0_commit_Hop : Int) (x0_commit_Seq : Int) (x0_commit_Have : List Int) (x0_commit_Need : List Int) (x0_commit_Index : Int) (x0_commit_Entry_Sess : Int) (x0_commit_Entry_Seq : Int) (x0_commit_Entry_Cmd_Kind : Int) (x0_commit_Entry_Cmd_Who : Int) (x0_commit_Entry_Cmd_Key : List UInt8) (x0_commit_Entry_Cmd_Val : List UInt8) (x0_commit_Entry_Cmd_Old : List UInt8) (x0_sure : Bool) (x0_ready : Int) : Option (Bool) :=
  if x0_sure = true then (
  some (x0_ready == x0_commit_Members))
  else (
  some false)

def hocketlaw14_ViewForms_1.f (x0 : Int) (x1 : Int) (x2 : Int) (x3 : Bool) : Option (api_Msg) :=
  some (⟨2, x0, 0, 0, x1, x2, x3, 0, 0, 0, 0, ([] : List UInt8), 0, 0, ([] : List Int), ([] : List Int), 0, (⟨0, 0, (⟨0, 0, ([] : List UInt8), ([] : List UInt8), ([] : List UInt8)⟩ : api_Cmd)⟩ : api_Entry)⟩ : api_Msg)

def hocketlaw17_ToknForms_1.f (x0 : Int) (x1 : List Int) (x2 : List Int) : Option (api_Msg) :=
  some (⟨7, 0, 0, 8, 0, 0, false, 0, 0, 0, 0, ([] : List UInt8), 3, x0, x1, x2, 0, (⟨0, 0, (⟨0, 0, ([] : List UInt8), ([] : List UInt8), ([] : List UInt8)⟩ : api_Cmd)⟩ : api_Entry)⟩ : api_Msg)

def hocketlaw17_Token_1.f (x0 : Int) (x1_ : List Int) : Option (Int) :=
  if x0 < (x1_.length : Int) then (
  Option.bind (ix x1_ x0) fun t_3 =>
  some t_3)
  else (
  some (w64 (x0 * 37)))

def gath_without_1.f (x0 : Int) (x1_ : Int) : Option (Bool) :=
  Option.bind (must (0 ≤ x0)) fun u_1 =>
  some ((band .i64 (shr .i64 x1_ x0) 1) == 1)

def hocketlaw14_ViewForms.f (K : Nat) (x0 : Int) : Option (Unit) :=
  Option.bind (hocketlaw14_ViewForms_1.f 0 0 0 true) fun t_1 =>
  Option.bind (hocketlaw14_ViewForms_1.f 1 0 0 true) fun t_29 =>
  Option.bind (hocketlaw14_ViewForms_1.f 0 0 0 true) fun t_75 =>
  Option.bind (hocketlaw14_ViewForms_1.f 1 0 0 true) fun t_103 =>
  Option.bind (hocketlaw14_ViewForms_1.f 4 0 0 true) fun t_131 =>
  Option.bind (hocketlaw14_ViewForms_1.f 0 0 9 true) fun t_183 =>
  Option.bind (hocketlaw14_ViewForms_1.f 1 8 2 true) fun t_211 =>
  Option.bind (hocketlaw14_ViewForms_1.f 4 0 0 true) fun t_239 =>
  Option.bind (hocketlaw14_ViewForms_1.f 0 0 9 true) fun t_291 =>
  Option.bind (hocketlaw14_ViewForms_1.f 1 8 0 false) fun t_319 =>
  Option.bind (hocketlaw14_ViewForms_1.f 4 0 0 true) fun t_347 =>
  Option.bind (hocketlaw14_ViewForms_1.f 2 8 3 true) fun t_399 =>
  Option.bind (hocketlaw14_ViewForms_1.f 1 8 3 true) fun t_427 =>
  Option.bind (hocketlaw14_ViewForms_1.f 4 8 2 true) fun t_455 =>
  Option.bind (hocketlaw14_ViewForms_1.f 2 8 3 true) fun t_507 =>
  Option.bind (hocketlaw14_ViewForms_1.f 1 8 9 false) fun t_535 =>
  Option.bind (hocketlaw14_ViewForms_1.f 4 8 4 true) fun t_563 =>
  Option.bind (hocketlaw14_ViewForms_1.f 2 8 3 true) fun t_615 =>
  Option.bind (hocketlaw14_ViewForms_1.f 2 16 9 true) fun t_643 =>
  Option.bind (hocketlaw14_ViewForms_1.f 1 8 1 true) fun t_671 =>
  Option.bind (hocketlaw14_ViewForms_1.f 4 8 4 true) fun t_699 =>
  Option.bind (hocketlaw14_ViewForms_1.f 2 8 3 true) fun t_757 =>
  Option.bind (hocketlaw14_ViewForms_1.f 5 99 9 true) fun t_785 =>
  Option.bind (hocketlaw14_ViewForms_1.f 1 8 1 true) fun t_813 =>
  Option.bind (hocketlaw14_ViewForms_1.f 4 8 4 true) fun t_841 =>
  Option.bind (hocketlaw14_ViewForms_1.f 0 8 3 true) fun t_899 =>
  Option.bind (hocketlaw14_ViewForms_1.f 1 8 3 true) fun t_927 =>
  Option.bind (hocketlaw14_ViewForms_1.f 2 8 3 true) fun t_955 =>
  Option.bind (hocketlaw14_ViewForms_1.f 3 8 3 true) fun t_983 =>
  Option.bind (hocketlaw14_ViewForms_1.f 4 8 3 true) fun t_1011 =>
  Option.bind (hocketlaw14_ViewForms_1.f 0 8 3 true) fun t_1075 =>
  Option.bind (hocketlaw14_ViewForms_1.f 2 8 3 true) fun t_1103 =>
  Option.bind (rem (band .i64 x0 255) (([(⟨([] : List api_Msg), 0, 0, 0, false⟩ : An_l_mask_source_n_ok), (⟨([t_1, t_29] : List api_Msg), 0, 0, 0, false⟩ : An_l_mask_source_n_ok), (⟨([t_75, t_103, t_131] : List api_Msg), 19, 0, 0, true⟩ : An_l_mask_source_n_ok), (⟨([t_183, t_211, t_239] : List api_Msg), 19, 1, 2, true⟩ : An_l_mask_source_n_ok), (⟨([t_291, t_319, t_347] : List api_Msg), 0, 0, 0, false⟩ : An_l_mask_source_n_ok), (⟨([t_399, t_427, t_455] : List api_Msg), 22, 1, 3, true⟩ : An_l_mask_source_n_ok), (⟨([t_507, t_535, t_563] : List api_Msg), 22, 4, 4, true⟩ : An_l_mask_source_n_ok), (⟨([t_615, t_643, t_671, t_699] : List api_Msg), 22, 4, 4, true⟩ : An_l_mask_source_n_ok), (⟨([t_757, t_785, t_813, t_841] : List api_Msg), 22, 4, 4, true⟩ : An_l_mask_source_n_ok), (⟨([t_899, t_927, t_955, t_983, t_1011] : List api_Msg), 31, 0, 3, true⟩ : An_l_mask_source_n_ok), (⟨([t_1075, (⟨6, 1, 0, 0, 0, 0, false, 0, 0, 0, 0, ([] : List UInt8), 0, 0, ([] : List Int), ([] : List Int), 0, (⟨0, 0, (⟨0, 0, ([] : List UInt8), ([] : List UInt8), ([] : List UInt8)⟩ : api_Cmd)⟩ : api_Entry)⟩ : api_Msg), t_1103] : List api_Msg), 0, 0, 0, false⟩ : An_l_mask_source_n_ok)] : List An_l_mask_source_n_ok).length : Int)) fun t_1165 =>
  Option.bind (ix ([(⟨([] : List api_Msg), 0, 0, 0, false⟩ : An_l_mask_source_n_ok), (⟨([t_1, t_29] : List api_Msg), 0, 0, 0, false⟩ : An_l_mask_source_n_ok), (⟨([t_75, t_103, t_131] : List api_Msg), 19, 0, 0, true⟩ : An_l_mask_source_n_ok), (⟨([t_183, t_211, t_239] : List api_Msg), 19, 1, 2, true⟩ : An_l_mask_source_n_ok), (⟨([t_291, t_319, t_347] : List api_Msg), 0, 0, 0, false⟩ : An_l_mask_source_n_ok), (⟨([t_399, t_427, t_455] : List api_Msg), 22, 1, 3, true⟩ : An_l_mask_source_n_ok), (⟨([t_507, t_535, t_563] : List api_Msg), 22, 4, 4, true⟩ : An_l_mask_source_n_ok), (⟨([t_615, t_643, t_671, t_699] : List api_Msg), 22, 4, 4, true⟩ : An_l_mask_source_n_ok), (⟨([t_757, t_785, t_813, t_841] : List api_Msg), 22, 4, 4, true⟩ : An_l_mask_source_n_ok), (⟨([t_899, t_927, t_955, t_983, t_1011] : List api_Msg), 31, 0, 3, true⟩ : An_l_mask_source_n_ok), (⟨([t_1075, (⟨6, 1, 0, 0, 0, 0, false, 0, 0, 0, 0, ([] : List UInt8), 0, 0, ([] : List Int), ([] : List Int), 0, (⟨0, 0, (⟨0, 0, ([] : List UInt8), ([] : List UInt8), ([] : List UInt8)⟩ : api_Cmd)⟩ : api_Entry)⟩ : api_Msg), t_1103] : List api_Msg), 0, 0, 0, false⟩ : An_l_mask_source_n_ok)] : List An_l_mask_source_n_ok) t_1165) fun t_1166 =>
  Option.bind (view_Choose.f K t_1166.l 5) fun t_1176 =>
  if t_1176.1 = t_1166.mask then (
  if t_1176.2.1 = t_1166.source then (
  if t_1176.2.2.1 = t_1166.n then (
  if t_1176.2.2.2 = t_1166.ok then (
  Option.bind (hocketlaw14_awake.f K) fun t_1185 =>
  some ())
  else (
  none))
  else (
  none))
  else (
  none))
  else (
  none)

def hocketlaw17_ToknForms.f (K : Nat) (x0 : Int) : Option (Unit) :=
  Option.bind (hocketlaw17_ToknForms_1.f 5 ([5, 5] : List Int) ([] : List Int)) fun t_8 =>
  Option.bind (hocketlaw17_ToknForms_1.f 5 ([5, 5] : List Int) ([] : List Int)) fun t_45 =>
  Option.bind (hocketlaw17_ToknForms_1.f 5 ([5, 5] : List Int) ([] : List Int)) fun t_82 =>
  Option.bind (hocketlaw17_ToknForms_1.f 20 ([5, 20] : List Int) ([] : List Int)) fun t_119 =>
  Option.bind (hocketlaw17_ToknForms_1.f 21 ([5, 21] : List Int) ([] : List Int)) fun t_156 =>
  Option.bind (hocketlaw17_ToknForms_1.f 9 ([5, 9] : List Int) ([6, 7] : List Int)) fun t_200 =>
  Option.bind (hocketlaw17_ToknForms_1.f 9 ([5, 9] : List Int) ([6, 7] : List Int)) fun t_262 =>
  Option.bind (hocketlaw17_ToknForms_1.f 9 ([5, 9] : List Int) ([] : List Int)) fun t_299 =>
  Option.bind (hocketlaw17_ToknForms_1.f 9 ([5, 9] : List Int) ([7] : List Int)) fun t_355 =>
  Option.bind (hocketlaw17_ToknForms_1.f 30 ([20, 30] : List Int) ([21, 22, 23, 24, 25, 26, 27] : List Int)) fun t_411 =>
  Option.bind (hocketlaw17_ToknForms_1.f 5 ([5, 5] : List Int) ([] : List Int)) fun t_460 =>
  Option.bind (hocketlaw17_ToknForms_1.f 9 ([9, 9] : List Int) ([8, 8] : List Int)) fun t_504 =>
  Option.bind (rem (band .i64 x0 255) (([(⟨t_8, 0, 5, 0, ([] : List Int), ([] : List Int), 5, 5, 4, ([5, 5] : List Int), ([] : List Int), ([] : List Int)⟩ : An_t_place_whole_fresh_has_missing_seq_safe_room_have_need_again), (⟨t_45, 0, 7, 2, ([] : List Int), ([] : List Int), 7, 5, 4, ([7, 5] : List Int), ([] : List Int), ([] : List Int)⟩ : An_t_place_whole_fresh_has_missing_seq_safe_room_have_need_again), (⟨t_82, 1, 9, 9, ([] : List Int), ([] : List Int), 9, 5, 4, ([5, 9] : List Int), ([] : List Int), ([] : List Int)⟩ : An_t_place_whole_fresh_has_missing_seq_safe_room_have_need_again), (⟨t_119, 1, 20, 3, ([] : List Int), ([] : List Int), 21, 5, 1, ([5, 20] : List Int), ([] : List Int), ([] : List Int)⟩ : An_t_place_whole_fresh_has_missing_seq_safe_room_have_need_again), (⟨t_156, 1, 21, 3, ([] : List Int), ([] : List Int), 21, 5, 0, ([5, 21] : List Int), ([] : List Int), ([] : List Int)⟩ : An_t_place_whole_fresh_has_missing_seq_safe_room_have_need_again), (⟨t_200, 1, 9, 0, ([6] : List Int), ([] : List Int), 9, 5, 4, ([5, 9] : List Int), ([7] : List Int), ([6] : List Int)⟩ : An_t_place_whole_fresh_has_missing_seq_safe_room_have_need_again), (⟨t_262, 0, 9, 0, ([] : List Int), ([] : List Int), 9, 9, 4, ([9, 9] : List Int), ([] : List Int), ([] : List Int)⟩ : An_t_place_whole_fresh_has_missing_seq_safe_room_have_need_again), (⟨t_299, 0, 6, 0, ([] : List Int), ([7, 9] : List Int), 9, 6, 4, ([6, 9] : List Int), ([7, 9] : List Int), ([] : List Int)⟩ : An_t_place_whole_fresh_has_missing_seq_safe_room_have_need_again), (⟨t_355, 0, 6, 0, ([] : List Int), ([7, 9] : List Int), 9, 6, 4, ([6, 9] : List Int), ([7, 9] : List Int), ([] : List Int)⟩ : An_t_place_whole_fresh_has_missing_seq_safe_room_have_need_again), (⟨t_411, 0, 20, 0, ([] : List Int), ([28, 29] : List Int), 30, 20, 4, ([20, 30] : List Int), ([21, 22, 23, 24, 25, 26, 27, 28] : List Int), ([] : List Int)⟩ : An_t_place_whole_fresh_has_missing_seq_safe_room_have_need_again), (⟨t_460, 9, 7, (-3), ([] : List Int), ([] : List Int), 5, 5, 4, ([5, 5] : List Int), ([] : List Int), ([] : List Int)⟩ : An_t_place_whole_fresh_has_missing_seq_safe_room_have_need_again), (⟨t_504, 0, 9, 0, ([8] : List Int), ([] : List Int), 9, 9, 4, ([9, 9] : List Int), ([] : List Int), ([8, 8] : List Int)⟩ : An_t_place_whole_fresh_has_missing_seq_safe_room_have_need_again)] : List An_t_place_whole_fresh_has_missing_seq_safe_room_have_need_again).length : Int)) fun t_623 =>
  Option.bind (ix ([(⟨t_8, 0, 5, 0, ([] : List Int), ([] : List Int), 5, 5, 4, ([5, 5] : List Int), ([] : List Int), ([] : List Int)⟩ : An_t_place_whole_fresh_has_missing_seq_safe_room_have_need_again), (⟨t_45, 0, 7, 2, ([] : List Int), ([] : List Int), 7, 5, 4, ([7, 5] : List Int), ([] : List Int), ([] : List Int)⟩ : An_t_place_whole_fresh_has_missing_seq_safe_room_have_need_again), (⟨t_82, 1, 9, 9, ([] : List Int), ([] : List Int), 9, 5, 4, ([5, 9] : List Int), ([] : List Int), ([] : List Int)⟩ : An_t_place_whole_fresh_has_missing_seq_safe_room_have_need_again), (⟨t_119, 1, 20, 3, ([] : List Int), ([] : List Int), 21, 5, 1, ([5, 20] : List Int), ([] : List Int), ([] : List Int)⟩ : An_t_place_whole_fresh_has_missing_seq_safe_room_have_need_again), (⟨t_156, 1, 21, 3, ([] : List Int), ([] : List Int), 21, 5, 0, ([5, 21] : List Int), ([] : List Int), ([] : List Int)⟩ : An_t_place_whole_fresh_has_missing_seq_safe_room_have_need_again), (⟨t_200, 1, 9, 0, ([6] : List Int), ([] : List Int), 9, 5, 4, ([5, 9] : List Int), ([7] : List Int), ([6] : List Int)⟩ : An_t_place_whole_fresh_has_missing_seq_safe_room_have_need_again), (⟨t_262, 0, 9, 0, ([] : List Int), ([] : List Int), 9, 9, 4, ([9, 9] : List Int), ([] : List Int), ([] : List Int)⟩ : An_t_place_whole_fresh_has_missing_seq_safe_room_have_need_again), (⟨t_299, 0, 6, 0, ([] : List Int), ([7, 9] : List Int), 9, 6, 4, ([6, 9] : List Int), ([7, 9] : List Int), ([] : List Int)⟩ : An_t_place_whole_fresh_has_missing_seq_safe_room_have_need_again), (⟨t_355, 0, 6, 0, ([] : List Int), ([7, 9] : List Int), 9, 6, 4, ([6, 9] : List Int), ([7, 9] : List Int), ([] : List Int)⟩ : An_t_place_whole_fresh_has_missing_seq_safe_room_have_need_again), (⟨t_411, 0, 20, 0, ([] : List Int), ([28, 29] : List Int), 30, 20, 4, ([20, 30] : List Int), ([21, 22, 23, 24, 25, 26, 27, 28] : List Int), ([] : List Int)⟩ : An_t_place_whole_fresh_has_missing_seq_safe_room_have_need_again), (⟨t_460, 9, 7, (-3), ([] : List Int), ([] : List Int), 5, 5, 4, ([5, 5] : List Int), ([] : List Int), ([] : List Int)⟩ : An_t_place_whole_fresh_has_missing_seq_safe_room_have_need_again), (⟨t_504, 0, 9, 0, ([8] : List Int), ([] : List Int), 9, 9, 4, ([9, 9] : List Int), ([] : List Int), ([8, 8] : List Int)⟩ : An_t_place_whole_fresh_has_missing_seq_safe_room_have_need_again)] : List An_t_place_whole_fresh_has_missing_seq_safe_room_have_need_again) t_623) fun t_624 =>
  Option.bind (tokn_Pass.f K t_624.t 1 t_624.place 2 t_624.whole t_624.fresh t_624.has t_624.missing) fun t_654 =>
  if t_654.1.Seq = t_624.seq then (
  Option.bind (tokn_Safe.f K t_654.1) fun t_684 =>
  if t_684 = t_624.safe then (
  Option.bind (tokn_Room.f K t_624.t) fun t_689 =>
  if t_689 = t_624.room then (
  Option.bind (hocketref1_SameInts.f K t_654.1.Have t_624.have_) fun t_694 =>
  if t_694 = true then (
  Option.bind (hocketref1_SameInts.f K t_654.1.Need t_624.need) fun t_699 =>
  if t_699 = true then (
  Option.bind (hocketref1_SameInts.f K t_654.2 t_624.again) fun t_704 =>
  if t_704 = true then (
  if t_654.1.Hop = 4 then (
  if t_654.1.From = 1 then (
  if t_654.1.To = 2 then (
  if t_654.1.View = 8 then (
  Option.bind (hocketlaw17_awake.f K) fun t_713 =>
  some ())
  else (
  none))
  else (
  none))
  else (
  none))
  else (
  none))
  else (
  none))
  else (
  none))
  else (
  none))
  else (
  none))
  else (
  none))
  else (
  none)

def hocketlaw17_Token.J2 (K : Nat) (t_5 : Int) (t_9 : Int) (t_13 : Int) (t_17 : Int) (t_21 : Int) (x_30 : List Int) (x_39 : List Int) : Option (api_Msg) :=
  some (⟨7, band .i64 t_5 3, band .i64 (shr .i64 t_9 2) 3, band .i64 (shr .i64 t_13 4) 255, 0, 0, false, 0, 0, 0, 0, ([] : List UInt8), band .i64 t_17 4095, band .i64 (shr .i64 t_21 12) 63, x_30, x_39, 0, (⟨0, 0, (⟨0, 0, ([] : List UInt8), ([] : List UInt8), ([] : List UInt8)⟩ : api_Cmd)⟩ : api_Entry)⟩ : api_Msg)
def hocketlaw17_Token.B1 (K : Nat) (x0 : List Int) (t_21 : Int) (ex_58 : (List Int) → Option (api_Msg)) (again_58 : Int × (List Int) → Option (api_Msg)) (x_52 : Int) (x_53 : List Int) : Option (api_Msg) :=
  Option.bind (hocketlaw17_Token_1.f 2 x0) fun t_62 =>
  if x_52 < (band .i64 (shr .i64 t_62 3) 7) then (
  Option.bind (hocketlaw17_Token_1.f (w64 (x_52 + 3)) x0) fun t_69 =>
  Option.bind (app 17592186044416 x_53 ([mx (w64 ((band .i64 (shr .i64 t_21 12) 63) - (band .i64 (shr .i64 t_69 4) 15))) 0] : List Int)) fun t_79 =>
  again_58 (w64 (x_52 + 1), t_79))
  else (
  ex_58 x_53)
def hocketlaw17_Token.L1 (K : Nat) (x0 : List Int) (t_21 : Int) (ex_58 : (List Int) → Option (api_Msg)) : Nat → Int × (List Int) → Option (api_Msg) :=
  iter fun again v => hocketlaw17_Token.B1 K x0 t_21 ex_58 again v.1 v.2
def hocketlaw17_Token.J1 (K : Nat) (x0 : List Int) (t_21 : Int) (t_5 : Int) (t_9 : Int) (t_13 : Int) (t_17 : Int) (x_30 : List Int) : Option (api_Msg) :=
  hocketlaw17_Token.L1 K x0 t_21 (fun v => hocketlaw17_Token.J2 K t_5 t_9 t_13 t_17 t_21 x_30 v) K (0, ([] : List Int))
def hocketlaw17_Token.B2 (K : Nat) (x0 : List Int) (t_21 : Int) (ex_200 : (List Int) → Option (api_Msg)) (again_200 : Int × (List Int) → Option (api_Msg)) (x_194 : Int) (x_195 : List Int) : Option (api_Msg) :=
  Option.bind (hocketlaw17_Token_1.f 2 x0) fun t_204 =>
  if x_194 < (band .i64 t_204 7) then (
  Option.bind (hocketlaw17_Token_1.f (w64 (x_194 + 3)) x0) fun t_211 =>
  Option.bind (app 17592186044416 x_195 ([mx (w64 ((band .i64 (shr .i64 t_21 12) 63) - (band .i64 t_211 15))) 0] : List Int)) fun t_221 =>
  again_200 (w64 (x_194 + 1), t_221))
  else (
  ex_200 x_195)
def hocketlaw17_Token.L2 (K : Nat) (x0 : List Int) (t_21 : Int) (ex_200 : (List Int) → Option (api_Msg)) : Nat → Int × (List Int) → Option (api_Msg) :=
  iter fun again v => hocketlaw17_Token.B2 K x0 t_21 ex_200 again v.1 v.2
def hocketlaw17_Token.f (K : Nat) (x0 : List Int) : Option (api_Msg) :=
  Option.bind (hocketlaw17_Token_1.f 0 x0) fun t_5 =>
  Option.bind (hocketlaw17_Token_1.f 0 x0) fun t_9 =>
  Option.bind (hocketlaw17_Token_1.f 0 x0) fun t_13 =>
  Option.bind (hocketlaw17_Token_1.f 1 x0) fun t_17 =>
  Option.bind (hocketlaw17_Token_1.f 1 x0) fun t_21 =>
  hocketlaw17_Token.L2 K x0 t_21 (fun v => hocketlaw17_Token.J1 K x0 t_21 t_5 t_9 t_13 t_17 v) K (0, ([] : List Int))

def hocketlaw17_ToknOwn.J3 (K : Nat) (t_1 : api_Msg) (t_29 : api_Msg) : Option (Unit) :=
  Option.bind (hocketref11_Same.f K t_1 t_29) fun t_121 =>
  if t_121 = true then (
  Option.bind (hocketlaw17_awake.f K) fun t_126 =>
  some ())
  else (
  none)
def hocketlaw17_ToknOwn.B1 (K : Nat) (t_76 : api_Msg × (List Int)) (ex_137 : Unit → Option (Unit)) (again_137 : (List Int) × Int → Option (Unit)) (x_131 : List Int) (x_136 : Int) : Option (Unit) :=
  if x_136 < (t_76.2.length : Int) then (
  Option.bind (ix x_131 x_136) fun t_141 =>
  again_137 ((x_131.set (x_136).toNat 777), w64 (x_136 + 1)))
  else (
  ex_137 ())
def hocketlaw17_ToknOwn.L1 (K : Nat) (t_76 : api_Msg × (List Int)) (ex_137 : Unit → Option (Unit)) : Nat → (List Int) × Int → Option (Unit) :=
  iter fun again v => hocketlaw17_ToknOwn.B1 K t_76 ex_137 again v.1 v.2
def hocketlaw17_ToknOwn.J2 (K : Nat) (t_76 : api_Msg × (List Int)) (t_1 : api_Msg) (t_29 : api_Msg) : Option (Unit) :=
  hocketlaw17_ToknOwn.L1 K t_76 (fun v => hocketlaw17_ToknOwn.J3 K t_1 t_29) K (t_76.2, 0)
def hocketlaw17_ToknOwn.B2 (K : Nat) (t_76 : api_Msg × (List Int)) (ex_155 : Unit → Option (Unit)) (again_155 : Int × (List Int) → Option (Unit)) (x_149 : Int) (x_150 : List Int) : Option (Unit) :=
  if x_149 < (t_76.1.Need.length : Int) then (
  Option.bind (ix x_150 x_149) fun t_159 =>
  again_155 (w64 (x_149 + 1), (x_150.set (x_149).toNat 777)))
  else (
  ex_155 ())
def hocketlaw17_ToknOwn.L2 (K : Nat) (t_76 : api_Msg × (List Int)) (ex_155 : Unit → Option (Unit)) : Nat → Int × (List Int) → Option (Unit) :=
  iter fun again v => hocketlaw17_ToknOwn.B2 K t_76 ex_155 again v.1 v.2
def hocketlaw17_ToknOwn.J1 (K : Nat) (t_76 : api_Msg × (List Int)) (t_1 : api_Msg) (t_29 : api_Msg) (x_105 : List Int) : Option (Unit) :=
  hocketlaw17_ToknOwn.L2 K t_76 (fun v => hocketlaw17_ToknOwn.J2 K t_76 t_1 t_29) K (0, t_76.1.Need)
def hocketlaw17_ToknOwn.B3 (K : Nat) (t_76 : api_Msg × (List Int)) (ex_173 : (List Int) → Option (Unit)) (again_173 : Int × (List Int) → Option (Unit)) (x_167 : Int) (x_168 : List Int) : Option (Unit) :=
  if x_167 < (t_76.1.Have.length : Int) then (
  Option.bind (ix x_168 x_167) fun t_177 =>
  again_173 (w64 (x_167 + 1), (x_168.set (x_167).toNat 777)))
  else (
  ex_173 x_168)
def hocketlaw17_ToknOwn.L3 (K : Nat) (t_76 : api_Msg × (List Int)) (ex_173 : (List Int) → Option (Unit)) : Nat → Int × (List Int) → Option (Unit) :=
  iter fun again v => hocketlaw17_ToknOwn.B3 K t_76 ex_173 again v.1 v.2
def hocketlaw17_ToknOwn.f (K : Nat) (x0 : List Int) (x1 : Int) : Option (Unit) :=
  Option.bind (hocketlaw17_Token.f K x0) fun t_1 =>
  Option.bind (hocketlaw17_Token.f K x0) fun t_29 =>
  Option.bind (tokn_Pass.f K t_1 1 0 2 (band .i64 x1 63) 1 t_1.Need ([99] : List Int)) fun t_76 =>
  hocketlaw17_ToknOwn.L3 K t_76 (fun v => hocketlaw17_ToknOwn.J1 K t_76 t_1 t_29 v) K (0, t_76.1.Have)

def slices_IndexFunc_sint_int_76.J1 (K : Nat) : Option (Int) :=
  some (-1)
def slices_IndexFunc_sint_int_76.B1 (K : Nat) (x0 : List Int) (x2_ : Int) (ex_7 : Unit → Option (Int)) (again_7 : Int → Option (Int)) (x_6 : Int) : Option (Int) :=
  if x_6 < (x0.length : Int) then (
  Option.bind (ix x0 x_6) fun t_12 =>
  Option.bind (gath_without_1.f t_12 x2_) fun t_17 =>
  if t_17 = true then (
  some x_6)
  else (
  again_7 (w64 (x_6 + 1))))
  else (
  ex_7 ())
def slices_IndexFunc_sint_int_76.L1 (K : Nat) (x0 : List Int) (x2_ : Int) (ex_7 : Unit → Option (Int)) : Nat → Int → Option (Int) :=
  iter fun again v => slices_IndexFunc_sint_int_76.B1 K x0 x2_ ex_7 again v
def slices_IndexFunc_sint_int_76.f (K : Nat) (x0 : List Int) (x2_ : Int) : Option (Int) :=
  slices_IndexFunc_sint_int_76.L1 K x0 x2_ (fun v => slices_IndexFunc_sint_int_76.J1 K) K 0

def slices_DeleteFunc_sint_int_76.J1 (K : Nat) (x_9 : List Int) (x_14 : Int) : Option ((List Int)) :=
  Option.bind (must (0 ≤ x_14 ∧ x_14 ≤ (x_9.length : Int) ∧ (x_9.length : Int) ≤ (x_9.length : Int))) fun u_17 =>
  Option.bind (must (0 ≤ x_14 ∧ x_14 ≤ ((x_9.take (x_14).toNat ++ List.replicate (((x_9.length : Int)).toNat - (x_14).toNat) 0).length : Int))) fun u_24 =>
  some ((x_9.take (x_14).toNat ++ List.replicate (((x_9.length : Int)).toNat - (x_14).toNat) 0).take (x_14).toNat)
def slices_DeleteFunc_sint_int_76.B1 (K : Nat) (x2_ : Int) (ex_36 : (List Int) × Int → Option ((List Int))) (again_36 : (List Int) × Int × Int → Option ((List Int))) (x_29 : List Int) (x_34 : Int) (x_35 : Int) : Option ((List Int)) :=
  if x_35 < (x_29.length : Int) then (
  Option.bind (ix x_29 x_35) fun t_41 =>
  Option.bind (gath_without_1.f t_41 x2_) fun t_46 =>
  if t_46 = true then (
  again_36 (x_29, x_34, w64 (x_35 + 1)))
  else (
  Option.bind (ix x_29 x_34) fun t_51 =>
  again_36 ((x_29.set (x_34).toNat t_41), w64 (x_34 + 1), w64 (x_35 + 1))))
  else (
  ex_36 (x_29, x_34))
def slices_DeleteFunc_sint_int_76.L1 (K : Nat) (x2_ : Int) (ex_36 : (List Int) × Int → Option ((List Int))) : Nat → (List Int) × Int × Int → Option ((List Int)) :=
  iter fun again v => slices_DeleteFunc_sint_int_76.B1 K x2_ ex_36 again v.1 v.2.1 v.2.2
def slices_DeleteFunc_sint_int_76.f (K : Nat) (x0 : List Int) (x2_ : Int) : Option ((List Int)) :=
  Option.bind (slices_IndexFunc_sint_int_76.f K x0 x2_) fun t_1 =>
  if t_1 = (-1) then (
  some x0)
  else (
  slices_DeleteFunc_sint_int_76.L1 K x2_ (fun v => slices_DeleteFunc_sint_int_76.J1 K v.1 v.2) K (x0, t_1, w64 (t_1 + 1)))

def gath_without.f (K : Nat) (x0 : Int) (x1 : Int) : Option ((List Int)) :=
  Option.bind (view_Members.f K x0) fun t_3 =>
  Option.bind (slices_DeleteFunc_sint_int_76.f K t_3 x1) fun t_11 =>
  some t_11

def gath_Gather_Absent.f (K : Nat) (x0_n : Int) (x0_id : Int) (x0_v : Int) (x0_l : List api_Msg) (x0_come : Int) (x0_ready : Int) (x0_commit_Kind : Int) (x0_commit_From : Int) (x0_commit_To : Int) (x0_commit_View : Int) (x0_commit_Inst : Int) (x0_commit_Len : Int) (x0_commit_Has : Bool) (x0_commit_Members : Int) (x0_commit_Source : Int) (x0_commit_At : Int) (x0_commit_Total : Int) (x0_commit_Data : List UInt8) (x0_commit_Hop : Int) (x0_commit_Seq : Int) (x0_commit_Have : List Int) (x0_commit_Need : List Int) (x0_commit_Index : Int) (x0_commit_Entry_Sess : Int) (x0_commit_Entry_Seq : Int) (x0_commit_Entry_Cmd_Kind : Int) (x0_commit_Entry_Cmd_Who : Int) (x0_commit_Entry_Cmd_Key : List UInt8) (x0_commit_Entry_Cmd_Val : List UInt8) (x0_commit_Entry_Cmd_Old : List UInt8) (x0_is : Bool) : Option ((List Int)) :=
  Option.bind (must (0 ≤ x0_n)) fun u_3 =>
  Option.bind (gath_without.f K (w64 ((shl .i64 1 x0_n) - 1)) x0_come) fun t_4 =>
  some t_4

def gath_Gather_All.f (K : Nat) (x0_n : Int) (x0_id : Int) (x0_v : Int) (x0_l : List api_Msg) (x0_come : Int) (x0_ready : Int) (x0_commit_Kind : Int) (x0_commit_From : Int) (x0_commit_To : Int) (x0_commit_View : Int) (x0_commit_Inst : Int) (x0_commit_Len : Int) (x0_commit_Has : Bool) (x0_commit_Members : Int) (x0_commit_Source : Int) (x0_commit_At : Int) (x0_commit_Total : Int) (x0_commit_Data : List UInt8) (x0_commit_Hop : Int) (x0_commit_Seq : Int) (x0_commit_Have : List Int) (x0_commit_Need : List Int) (x0_commit_Index : Int) (x0_commit_Entry_Sess : Int) (x0_commit_Entry_Seq : Int) (x0_commit_Entry_Cmd_Kind : Int) (x0_commit_Entry_Cmd_Who : Int) (x0_commit_Entry_Cmd_Key : List UInt8) (x0_commit_Entry_Cmd_Val : List UInt8) (x0_commit_Entry_Cmd_Old : List UInt8) (x0_is : Bool) : Option (Bool) :=
  Option.bind (gath_Gather_Absent.f K x0_n x0_id x0_v x0_l x0_come x0_ready x0_commit_Kind x0_commit_From x0_commit_To x0_commit_View x0_commit_Inst x0_commit_Len x0_commit_Has x0_commit_Members x0_commit_Source x0_commit_At x0_commit_Total x0_commit_Data x0_commit_Hop x0_commit_Seq x0_commit_Have x0_commit_Need x0_commit_Index x0_commit_Entry_Sess x0_commit_Entry_Seq x0_commit_Entry_Cmd_Kind x0_commit_Entry_Cmd_Who x0_commit_Entry_Cmd_Key x0_commit_Entry_Cmd_Val x0_commit_Entry_Cmd_Old x0_is) fun t_1 =>
  some ((t_1.length : Int) == 0)

def gath_Gather_Unready.f (K : Nat) (x0_n : Int) (x0_id : Int) (x0_v : Int) (x0_l : List api_Msg) (x0_come : Int) (x0_ready : Int) (x0_commit_Kind : Int) (x0_commit_From : Int) (x0_commit_To : Int) (x0_commit_View : Int) (x0_commit_Inst : Int) (x0_commit_Len : Int) (x0_commit_Has : Bool) (x0_commit_Members : Int) (x0_commit_Source : Int) (x0_commit_At : Int) (x0_commit_Total : Int) (x0_commit_Data : List UInt8) (x0_commit_Hop : Int) (x0_commit_Seq : Int) (x0_commit_Have : List Int) (x0_commit_Need : List Int) (x0_commit_Index : Int) (x0_commit_Entry_Sess : Int) (x0_commit_Entry_Seq : Int) (x0_commit_Entry_Cmd_Kind : Int) (x0_commit_Entry_Cmd_Who : Int) (x0_commit_Entry_Cmd_Key : List UInt8) (x0_commit_Entry_Cmd_Val : List UInt8) (x0_commit_Entry_Cmd_Old : List UInt8) (x0_is : Bool) : Option ((List Int)) :=
  Option.bind (gath_without.f K x0_commit_Members x0_ready) fun t_3 =>
  some t_3

def gath_Gather_Done.f (K : Nat) (x0_n : Int) (x0_id : Int) (x0_v : Int) (x0_l : List api_Msg) (x0_come : Int) (x0_ready : Int) (x0_commit_Kind : Int) (x0_commit_From : Int) (x0_commit_To : Int) (x0_commit_View : Int) (x0_commit_Inst : Int) (x0_commit_Len : Int) (x0_commit_Has : Bool) (x0_commit_Members : Int) (x0_commit_Source : Int) (x0_commit_At : Int) (x0_commit_Total : Int) (x0_commit_Data : List UInt8) (x0_commit_Hop : Int) (x0_commit_Seq : Int) (x0_commit_Have : List Int) (x0_commit_Need : List Int) (x0_commit_Index : Int) (x0_commit_Entry_Sess : Int) (x0_commit_Entry_Seq : Int) (x0_commit_Entry_Cmd_Kind : Int) (x0_commit_Entry_Cmd_Who : Int) (x0_commit_Entry_Cmd_Key : List UInt8) (x0_commit_Entry_Cmd_Val : List UInt8) (x0_commit_Entry_Cmd_Old : List UInt8) (x0_is : Bool) : Option (Bool) :=
  if x0_is = true then (
  Option.bind (gath_Gather_Unready.f K x0_n x0_id x0_v x0_l x0_come x0_ready x0_commit_Kind x0_commit_From x0_commit_To x0_commit_View x0_commit_Inst x0_commit_Len x0_commit_Has x0_commit_Members x0_commit_Source x0_commit_At x0_commit_Total x0_commit_Data x0_commit_Hop x0_commit_Seq x0_commit_Have x0_commit_Need x0_commit_Index x0_commit_Entry_Sess x0_commit_Entry_Seq x0_commit_Entry_Cmd_Kind x0_commit_Entry_Cmd_Who x0_commit_Entry_Cmd_Key x0_commit_Entry_Cmd_Val x0_commit_Entry_Cmd_Old x0_is) fun t_3 =>
  some ((t_3.length : Int) == 0))
  else (
  some false)

def gath_Gather_Ready.J1 (K : Nat) (x0_n : Int) (x0_id : Int) (x0_v : Int) (x0_l : List api_Msg) (x0_come : Int) (x0_ready : Int) (x0_commit_Kind : Int) (x0_commit_From : Int) (x0_commit_To : Int) (x0_commit_View : Int) (x0_commit_Inst : Int) (x0_commit_Len : Int) (x0_commit_Has : Bool) (x0_commit_Members : Int) (x0_commit_Source : Int) (x0_commit_At : Int) (x0_commit_Total : Int) (x0_commit_Data : List UInt8) (x0_commit_Hop : Int) (x0_commit_Seq : Int) (x0_commit_Have : List Int) (x0_commit_Need : List Int) (x0_commit_Index : Int) (x0_commit_Entry_Sess : Int) (x0_commit_Entry_Seq : Int) (x0_commit_Entry_Cmd_Kind : Int) (x0_commit_Entry_Cmd_Who : Int) (x0_commit_Entry_Cmd_Key : List UInt8) (x0_commit_Entry_Cmd_Val : List UInt8) (x0_commit_Entry_Cmd_Old : List UInt8) (x0_is : Bool) (x1 : Int) (x_4 : Bool) : Option (Bool × Int × Int × Int × (List api_Msg) × Int × Int × Int × Int × Int × Int × Int × Int × Bool × Int × Int × Int × Int × (List UInt8) × Int × Int × (List Int) × (List Int) × Int × Int × Int × Int × Int × (List UInt8) × (List UInt8) × (List UInt8) × Bool) :=
  if x_4 = true then (
  some (false, x0_n, x0_id, x0_v, x0_l, x0_come, x0_ready, x0_commit_Kind, x0_commit_From, x0_commit_To, x0_commit_View, x0_commit_Inst, x0_commit_Len, x0_commit_Has, x0_commit_Members, x0_commit_Source, x0_commit_At, x0_commit_Total, x0_commit_Data, x0_commit_Hop, x0_commit_Seq, x0_commit_Have, x0_commit_Need, x0_commit_Index, x0_commit_Entry_Sess, x0_commit_Entry_Seq, x0_commit_Entry_Cmd_Kind, x0_commit_Entry_Cmd_Who, x0_commit_Entry_Cmd_Key, x0_commit_Entry_Cmd_Val, x0_commit_Entry_Cmd_Old, x0_is))
  else (
  Option.bind (must (0 ≤ x1)) fun u_10 =>
  some (true, x0_n, x0_id, x0_v, x0_l, x0_come, bor .i64 x0_ready (shl .i64 1 x1), x0_commit_Kind, x0_commit_From, x0_commit_To, x0_commit_View, x0_commit_Inst, x0_commit_Len, x0_commit_Has, x0_commit_Members, x0_commit_Source, x0_commit_At, x0_commit_Total, x0_commit_Data, x0_commit_Hop, x0_commit_Seq, x0_commit_Have, x0_commit_Need, x0_commit_Index, x0_commit_Entry_Sess, x0_commit_Entry_Seq, x0_commit_Entry_Cmd_Kind, x0_commit_Entry_Cmd_Who, x0_commit_Entry_Cmd_Key, x0_commit_Entry_Cmd_Val, x0_commit_Entry_Cmd_Old, x0_is))
def gath_Gather_Ready.f (K : Nat) (x0_n : Int) (x0_id : Int) (x0_v : Int) (x0_l : List api_Msg) (x0_come : Int) (x0_ready : Int) (x0_commit_Kind : Int) (x0_commit_From : Int) (x0_commit_To : Int) (x0_commit_View : Int) (x0_commit_Inst : Int) (x0_commit_Len : Int) (x0_commit_Has : Bool) (x0_commit_Members : Int) (x0_commit_Source : Int) (x0_commit_At : Int) (x0_commit_Total : Int) (x0_commit_Data : List UInt8) (x0_commit_Hop : Int) (x0_commit_Seq : Int) (x0_commit_Have : List Int) (x0_commit_Need : List Int) (x0_commit_Index : Int) (x0_commit_Entry_Sess : Int) (x0_commit_Entry_Seq : Int) (x0_commit_Entry_Cmd_Kind : Int) (x0_commit_Entry_Cmd_Who : Int) (x0_commit_Entry_Cmd_Key : List UInt8) (x0_commit_Entry_Cmd_Val : List UInt8) (x0_commit_Entry_Cmd_Old : List UInt8) (x0_is : Bool) (x1 : Int) : Option (Bool × Int × Int × Int × (List api_Msg) × Int × Int × Int × Int × Int × Int × Int × Int × Bool × Int × Int × Int × Int × (List UInt8) × Int × Int × (List Int) × (List Int) × Int × Int × Int × Int × Int × (List UInt8) × (List UInt8) × (List UInt8) × Bool) :=
  if x0_is = true then (
  Option.bind (gath_Gather_Unready.f K x0_n x0_id x0_v x0_l x0_come x0_ready x0_commit_Kind x0_commit_From x0_commit_To x0_commit_View x0_commit_Inst x0_commit_Len x0_commit_Has x0_commit_Members x0_commit_Source x0_commit_At x0_commit_Total x0_commit_Data x0_commit_Hop x0_commit_Seq x0_commit_Have x0_commit_Need x0_commit_Index x0_commit_Entry_Sess x0_commit_Entry_Seq x0_commit_Entry_Cmd_Kind x0_commit_Entry_Cmd_Who x0_commit_Entry_Cmd_Key x0_commit_Entry_Cmd_Val x0_commit_Entry_Cmd_Old x0_is) fun t_13 =>
  Option.bind (slices_Contains_sint_int.f K t_13 x1) fun t_21 =>
  gath_Gather_Ready.J1 K x0_n x0_id x0_v x0_l x0_come x0_ready x0_commit_Kind x0_commit_From x0_commit_To x0_commit_View x0_commit_Inst x0_commit_Len x0_commit_Has x0_commit_Members x0_commit_Source x0_commit_At x0_commit_Total x0_commit_Data x0_commit_Hop x0_commit_Seq x0_commit_Have x0_commit_Need x0_commit_Index x0_commit_Entry_Sess x0_commit_Entry_Seq x0_commit_Entry_Cmd_Kind x0_commit_Entry_Cmd_Who x0_commit_Entry_Cmd_Key x0_commit_Entry_Cmd_Val x0_commit_Entry_Cmd_Old x0_is x1 (!t_21))
  else (
  gath_Gather_Ready.J1 K x0_n x0_id x0_v x0_l x0_come x0_ready x0_commit_Kind x0_commit_From x0_commit_To x0_commit_View x0_commit_Inst x0_commit_Len x0_commit_Has x0_commit_Members x0_commit_Source x0_commit_At x0_commit_Total x0_commit_Data x0_commit_Hop x0_commit_Seq x0_commit_Have x0_commit_Need x0_commit_Index x0_commit_Entry_Sess x0_commit_Entry_Seq x0_commit_Entry_Cmd_Kind x0_commit_Entry_Cmd_Who x0_commit_Entry_Cmd_Key x0_commit_Entry_Cmd_Val x0_commit_Entry_Cmd_Old x0_is x1 true)

def hocketlaw18_awake.f (K : Nat) : Option (Unit) :=
  Option.bind (gath_New.f 3 1 9 (⟨2, 1, 0, 9, 0, 0, true, 0, 0, 0, 0, ([] : List UInt8), 0, 0, ([] : List Int), ([] : List Int), 0, (⟨0, 0, (⟨0, 0, ([] : List UInt8), ([] : List UInt8), ([] : List UInt8)⟩ : api_Cmd)⟩ : api_Entry)⟩ : api_Msg)) fun t_1 =>
  Option.bind (gath_Gather_Commit.f K t_1.1 t_1.2.1 t_1.2.2.1 t_1.2.2.2.1 t_1.2.2.2.2.1 t_1.2.2.2.2.2.1 t_1.2.2.2.2.2.2.1 t_1.2.2.2.2.2.2.2.1 t_1.2.2.2.2.2.2.2.2.1 t_1.2.2.2.2.2.2.2.2.2.1 t_1.2.2.2.2.2.2.2.2.2.2.1 t_1.2.2.2.2.2.2.2.2.2.2.2.1 t_1.2.2.2.2.2.2.2.2.2.2.2.2.1 t_1.2.2.2.2.2.2.2.2.2.2.2.2.2.1 t_1.2.2.2.2.2.2.2.2.2.2.2.2.2.2.1 t_1.2.2.2.2.2.2.2.2.2.2.2.2.2.2.2.1 t_1.2.2.2.2.2.2.2.2.2.2.2.2.2.2.2.2.1 t_1.2.2.2.2.2.2.2.2.2.2.2.2.2.2.2.2.2.1 t_1.2.2.2.2.2.2.2.2.2.2.2.2.2.2.2.2.2.2.1 t_1.2.2.2.2.2.2.2.2.2.2.2.2.2.2.2.2.2.2.2.1 t_1.2.2.2.2.2.2.2.2.2.2.2.2.2.2.2.2.2.2.2.2.1 t_1.2.2.2.2.2.2.2.2.2.2.2.2.2.2.2.2.2.2.2.2.2.1 t_1.2.2.2.2.2.2.2.2.2.2.2.2.2.2.2.2.2.2.2.2.2.2.1 t_1.2.2.2.2.2.2.2.2.2.2.2.2.2.2.2.2.2.2.2.2.2.2.2.1 t_1.2.2.2.2.2.2.2.2.2.2.2.2.2.2.2.2.2.2.2.2.2.2.2.2.1 t_1.2.2.2.2.2.2.2.2.2.2.2.2.2.2.2.2.2.2.2.2.2.2.2.2.2.1 t_1.2.2.2.2.2.2.2.2.2.2.2.2.2.2.2.2.2.2.2.2.2.2.2.2.2.2.1 t_1.2.2.2.2.2.2.2.2.2.2.2.2.2.2.2.2.2.2.2.2.2.2.2.2.2.2.2.1 t_1.2.2.2.2.2.2.2.2.2.2.2.2.2.2.2.2.2.2.2.2.2.2.2.2.2.2.2.2.1 t_1.2.2.2.2.2.2.2.2.2.2.2.2.2.2.2.2.2.2.2.2.2.2.2.2.2.2.2.2.2.1 t_1.2.2.2.2.2.2.2.2.2.2.2.2.2.2.2.2.2.2.2.2.2.2.2.2.2.2.2.2.2.2) fun t_23 =>
  Option.bind (gath_Gather_Take.f t_23.2.2.1 t_23.2.2.2.1 t_23.2.2.2.2.1 t_23.2.2.2.2.2.1 t_23.2.2.2.2.2.2.1 t_23.2.2.2.2.2.2.2.1 t_23.2.2.2.2.2.2.2.2.1 t_23.2.2.2.2.2.2.2.2.2.1 t_23.2.2.2.2.2.2.2.2.2.2.1 t_23.2.2.2.2.2.2.2.2.2.2.2.1 t_23.2.2.2.2.2.2.2.2.2.2.2.2.1 t_23.2.2.2.2.2.2.2.2.2.2.2.2.2.1 t_23.2.2.2.2.2.2.2.2.2.2.2.2.2.2.1 t_23.2.2.2.2.2.2.2.2.2.2.2.2.2.2.2.1 t_23.2.2.2.2.2.2.2.2.2.2.2.2.2.2.2.2.1 t_23.2.2.2.2.2.2.2.2.2.2.2.2.2.2.2.2.2.1 t_23.2.2.2.2.2.2.2.2.2.2.2.2.2.2.2.2.2.2.1 t_23.2.2.2.2.2.2.2.2.2.2.2.2.2.2.2.2.2.2.2.1 t_23.2.2.2.2.2.2.2.2.2.2.2.2.2.2.2.2.2.2.2.2.1 t_23.2.2.2.2.2.2.2.2.2.2.2.2.2.2.2.2.2.2.2.2.2.1 t_23.2.2.2.2.2.2.2.2.2.2.2.2.2.2.2.2.2.2.2.2.2.2.1 t_23.2.2.2.2.2.2.2.2.2.2.2.2.2.2.2.2.2.2.2.2.2.2.2.1 t_23.2.2.2.2.2.2.2.2.2.2.2.2.2.2.2.2.2.2.2.2.2.2.2.2.1 t_23.2.2.2.2.2.2.2.2.2.2.2.2.2.2.2.2.2.2.2.2.2.2.2.2.2.1 t_23.2.2.2.2.2.2.2.2.2.2.2.2.2.2.2.2.2.2.2.2.2.2.2.2.2.2.1 t_23.2.2.2.2.2.2.2.2.2.2.2.2.2.2.2.2.2.2.2.2.2.2.2.2.2.2.2.1 t_23.2.2.2.2.2.2.2.2.2.2.2.2.2.2.2.2.2.2.2.2.2.2.2.2.2.2.2.2.1 t_23.2.2.2.2.2.2.2.2.2.2.2.2.2.2.2.2.2.2.2.2.2.2.2.2.2.2.2.2.2.1 t_23.2.2.2.2.2.2.2.2.2.2.2.2.2.2.2.2.2.2.2.2.2.2.2.2.2.2.2.2.2.2.1 t_23.2.2.2.2.2.2.2.2.2.2.2.2.2.2.2.2.2.2.2.2.2.2.2.2.2.2.2.2.2.2.2.1 t_23.2.2.2.2.2.2.2.2.2.2.2.2.2.2.2.2.2.2.2.2.2.2.2.2.2.2.2.2.2.2.2.2 (⟨2, 0, 0, 9, 0, 0, true, 0, 0, 0, 0, ([] : List UInt8), 0, 0, ([] : List Int), ([] : List Int), 0, (⟨0, 0, (⟨0, 0, ([] : List UInt8), ([] : List UInt8), ([] : List UInt8)⟩ : api_Cmd)⟩ : api_Entry)⟩ : api_Msg)) fun t_58 =>
  Option.bind (gath_Gather_Take.f t_58.2.1 t_58.2.2.1 t_58.2.2.2.1 t_58.2.2.2.2.1 t_58.2.2.2.2.2.1 t_58.2.2.2.2.2.2.1 t_58.2.2.2.2.2.2.2.1 t_58.2.2.2.2.2.2.2.2.1 t_58.2.2.2.2.2.2.2.2.2.1 t_58.2.2.2.2.2.2.2.2.2.2.1 t_58.2.2.2.2.2.2.2.2.2.2.2.1 t_58.2.2.2.2.2.2.2.2.2.2.2.2.1 t_58.2.2.2.2.2.2.2.2.2.2.2.2.2.1 t_58.2.2.2.2.2.2.2.2.2.2.2.2.2.2.1 t_58.2.2.2.2.2.2.2.2.2.2.2.2.2.2.2.1 t_58.2.2.2.2.2.2.2.2.2.2.2.2.2.2.2.2.1 t_58.2.2.2.2.2.2.2.2.2.2.2.2.2.2.2.2.2.1 t_58.2.2.2.2.2.2.2.2.2.2.2.2.2.2.2.2.2.2.1 t_58.2.2.2.2.2.2.2.2.2.2.2.2.2.2.2.2.2.2.2.1 t_58.2.2.2.2.2.2.2.2.2.2.2.2.2.2.2.2.2.2.2.2.1 t_58.2.2.2.2.2.2.2.2.2.2.2.2.2.2.2.2.2.2.2.2.2.1 t_58.2.2.2.2.2.2.2.2.2.2.2.2.2.2.2.2.2.2.2.2.2.2.1 t_58.2.2.2.2.2.2.2.2.2.2.2.2.2.2.2.2.2.2.2.2.2.2.2.1 t_58.2.2.2.2.2.2.2.2.2.2.2.2.2.2.2.2.2.2.2.2.2.2.2.2.1 t_58.2.2.2.2.2.2.2.2.2.2.2.2.2.2.2.2.2.2.2.2.2.2.2.2.2.1 t_58.2.2.2.2.2.2.2.2.2.2.2.2.2.2.2.2.2.2.2.2.2.2.2.2.2.2.1 t_58.2.2.2.2.2.2.2.2.2.2.2.2.2.2.2.2.2.2.2.2.2.2.2.2.2.2.2.1 t_58.2.2.2.2.2.2.2.2.2.2.2.2.2.2.2.2.2.2.2.2.2.2.2.2.2.2.2.2.1 t_58.2.2.2.2.2.2.2.2.2.2.2.2.2.2.2.2.2.2.2.2.2.2.2.2.2.2.2.2.2.1 t_58.2.2.2.2.2.2.2.2.2.2.2.2.2.2.2.2.2.2.2.2.2.2.2.2.2.2.2.2.2.2.1 t_58.2.2.2.2.2.2.2.2.2.2.2.2.2.2.2.2.2.2.2.2.2.2.2.2.2.2.2.2.2.2.2 (⟨2, 0, 0, 9, 0, 0, false, 0, 0, 0, 0, ([] : List UInt8), 0, 0, ([] : List Int), ([] : List Int), 0, (⟨0, 0, (⟨0, 0, ([] : List UInt8), ([] : List UInt8), ([] : List UInt8)⟩ : api_Cmd)⟩ : api_Entry)⟩ : api_Msg)) fun t_78 =>
  Option.bind (gath_Gather_Absent.f K t_78.2.1 t_78.2.2.1 t_78.2.2.2.1 t_78.2.2.2.2.1 t_78.2.2.2.2.2.1 t_78.2.2.2.2.2.2.1 t_78.2.2.2.2.2.2.2.1 t_78.2.2.2.2.2.2.2.2.1 t_78.2.2.2.2.2.2.2.2.2.1 t_78.2.2.2.2.2.2.2.2.2.2.1 t_78.2.2.2.2.2.2.2.2.2.2.2.1 t_78.2.2.2.2.2.2.2.2.2.2.2.2.1 t_78.2.2.2.2.2.2.2.2.2.2.2.2.2.1 t_78.2.2.2.2.2.2.2.2.2.2.2.2.2.2.1 t_78.2.2.2.2.2.2.2.2.2.2.2.2.2.2.2.1 t_78.2.2.2.2.2.2.2.2.2.2.2.2.2.2.2.2.1 t_78.2.2.2.2.2.2.2.2.2.2.2.2.2.2.2.2.2.1 t_78.2.2.2.2.2.2.2.2.2.2.2.2.2.2.2.2.2.2.1 t_78.2.2.2.2.2.2.2.2.2.2.2.2.2.2.2.2.2.2.2.1 t_78.2.2.2.2.2.2.2.2.2.2.2.2.2.2.2.2.2.2.2.2.1 t_78.2.2.2.2.2.2.2.2.2.2.2.2.2.2.2.2.2.2.2.2.2.1 t_78.2.2.2.2.2.2.2.2.2.2.2.2.2.2.2.2.2.2.2.2.2.2.1 t_78.2.2.2.2.2.2.2.2.2.2.2.2.2.2.2.2.2.2.2.2.2.2.2.1 t_78.2.2.2.2.2.2.2.2.2.2.2.2.2.2.2.2.2.2.2.2.2.2.2.2.1 t_78.2.2.2.2.2.2.2.2.2.2.2.2.2.2.2.2.2.2.2.2.2.2.2.2.2.1 t_78.2.2.2.2.2.2.2.2.2.2.2.2.2.2.2.2.2.2.2.2.2.2.2.2.2.2.1 t_78.2.2.2.2.2.2.2.2.2.2.2.2.2.2.2.2.2.2.2.2.2.2.2.2.2.2.2.1 t_78.2.2.2.2.2.2.2.2.2.2.2.2.2.2.2.2.2.2.2.2.2.2.2.2.2.2.2.2.1 t_78.2.2.2.2.2.2.2.2.2.2.2.2.2.2.2.2.2.2.2.2.2.2.2.2.2.2.2.2.2.1 t_78.2.2.2.2.2.2.2.2.2.2.2.2.2.2.2.2.2.2.2.2.2.2.2.2.2.2.2.2.2.2.1 t_78.2.2.2.2.2.2.2.2.2.2.2.2.2.2.2.2.2.2.2.2.2.2.2.2.2.2.2.2.2.2.2) fun t_98 =>
  Option.bind (gath_Gather_Commit.f K t_78.2.1 t_78.2.2.1 t_78.2.2.2.1 t_78.2.2.2.2.1 t_78.2.2.2.2.2.1 t_78.2.2.2.2.2.2.1 t_78.2.2.2.2.2.2.2.1 t_78.2.2.2.2.2.2.2.2.1 t_78.2.2.2.2.2.2.2.2.2.1 t_78.2.2.2.2.2.2.2.2.2.2.1 t_78.2.2.2.2.2.2.2.2.2.2.2.1 t_78.2.2.2.2.2.2.2.2.2.2.2.2.1 t_78.2.2.2.2.2.2.2.2.2.2.2.2.2.1 t_78.2.2.2.2.2.2.2.2.2.2.2.2.2.2.1 t_78.2.2.2.2.2.2.2.2.2.2.2.2.2.2.2.1 t_78.2.2.2.2.2.2.2.2.2.2.2.2.2.2.2.2.1 t_78.2.2.2.2.2.2.2.2.2.2.2.2.2.2.2.2.2.1 t_78.2.2.2.2.2.2.2.2.2.2.2.2.2.2.2.2.2.2.1 t_78.2.2.2.2.2.2.2.2.2.2.2.2.2.2.2.2.2.2.2.1 t_78.2.2.2.2.2.2.2.2.2.2.2.2.2.2.2.2.2.2.2.2.1 t_78.2.2.2.2.2.2.2.2.2.2.2.2.2.2.2.2.2.2.2.2.2.1 t_78.2.2.2.2.2.2.2.2.2.2.2.2.2.2.2.2.2.2.2.2.2.2.1 t_78.2.2.2.2.2.2.2.2.2.2.2.2.2.2.2.2.2.2.2.2.2.2.2.1 t_78.2.2.2.2.2.2.2.2.2.2.2.2.2.2.2.2.2.2.2.2.2.2.2.2.1 t_78.2.2.2.2.2.2.2.2.2.2.2.2.2.2.2.2.2.2.2.2.2.2.2.2.2.1 t_78.2.2.2.2.2.2.2.2.2.2.2.2.2.2.2.2.2.2.2.2.2.2.2.2.2.2.1 t_78.2.2.2.2.2.2.2.2.2.2.2.2.2.2.2.2.2.2.2.2.2.2.2.2.2.2.2.1 t_78.2.2.2.2.2.2.2.2.2.2.2.2.2.2.2.2.2.2.2.2.2.2.2.2.2.2.2.2.1 t_78.2.2.2.2.2.2.2.2.2.2.2.2.2.2.2.2.2.2.2.2.2.2.2.2.2.2.2.2.2.1 t_78.2.2.2.2.2.2.2.2.2.2.2.2.2.2.2.2.2.2.2.2.2.2.2.2.2.2.2.2.2.2.1 t_78.2.2.2.2.2.2.2.2.2.2.2.2.2.2.2.2.2.2.2.2.2.2.2.2.2.2.2.2.2.2.2) fun t_106 =>
  Option.bind (gath_Gather_Take.f t_106.2.2.1 t_106.2.2.2.1 t_106.2.2.2.2.1 t_106.2.2.2.2.2.1 t_106.2.2.2.2.2.2.1 t_106.2.2.2.2.2.2.2.1 t_106.2.2.2.2.2.2.2.2.1 t_106.2.2.2.2.2.2.2.2.2.1 t_106.2.2.2.2.2.2.2.2.2.2.1 t_106.2.2.2.2.2.2.2.2.2.2.2.1 t_106.2.2.2.2.2.2.2.2.2.2.2.2.1 t_106.2.2.2.2.2.2.2.2.2.2.2.2.2.1 t_106.2.2.2.2.2.2.2.2.2.2.2.2.2.2.1 t_106.2.2.2.2.2.2.2.2.2.2.2.2.2.2.2.1 t_106.2.2.2.2.2.2.2.2.2.2.2.2.2.2.2.2.1 t_106.2.2.2.2.2.2.2.2.2.2.2.2.2.2.2.2.2.1 t_106.2.2.2.2.2.2.2.2.2.2.2.2.2.2.2.2.2.2.1 t_106.2.2.2.2.2.2.2.2.2.2.2.2.2.2.2.2.2.2.2.1 t_106.2.2.2.2.2.2.2.2.2.2.2.2.2.2.2.2.2.2.2.2.1 t_106.2.2.2.2.2.2.2.2.2.2.2.2.2.2.2.2.2.2.2.2.2.1 t_106.2.2.2.2.2.2.2.2.2.2.2.2.2.2.2.2.2.2.2.2.2.2.1 t_106.2.2.2.2.2.2.2.2.2.2.2.2.2.2.2.2.2.2.2.2.2.2.2.1 t_106.2.2.2.2.2.2.2.2.2.2.2.2.2.2.2.2.2.2.2.2.2.2.2.2.1 t_106.2.2.2.2.2.2.2.2.2.2.2.2.2.2.2.2.2.2.2.2.2.2.2.2.2.1 t_106.2.2.2.2.2.2.2.2.2.2.2.2.2.2.2.2.2.2.2.2.2.2.2.2.2.2.1 t_106.2.2.2.2.2.2.2.2.2.2.2.2.2.2.2.2.2.2.2.2.2.2.2.2.2.2.2.1 t_106.2.2.2.2.2.2.2.2.2.2.2.2.2.2.2.2.2.2.2.2.2.2.2.2.2.2.2.2.1 t_106.2.2.2.2.2.2.2.2.2.2.2.2.2.2.2.2.2.2.2.2.2.2.2.2.2.2.2.2.2.1 t_106.2.2.2.2.2.2.2.2.2.2.2.2.2.2.2.2.2.2.2.2.2.2.2.2.2.2.2.2.2.2.1 t_106.2.2.2.2.2.2.2.2.2.2.2.2.2.2.2.2.2.2.2.2.2.2.2.2.2.2.2.2.2.2.2.1 t_106.2.2.2.2.2.2.2.2.2.2.2.2.2.2.2.2.2.2.2.2.2.2.2.2.2.2.2.2.2.2.2.2 (⟨2, 2, 0, 9, 0, 0, false, 0, 0, 0, 0, ([] : List UInt8), 0, 0, ([] : List Int), ([] : List Int), 0, (⟨0, 0, (⟨0, 0, ([] : List UInt8), ([] : List UInt8), ([] : List UInt8)⟩ : api_Cmd)⟩ : api_Entry)⟩ : api_Msg)) fun t_141 =>
  Option.bind (gath_Gather_Ready.f K t_141.2.1 t_141.2.2.1 t_141.2.2.2.1 t_141.2.2.2.2.1 t_141.2.2.2.2.2.1 t_141.2.2.2.2.2.2.1 t_141.2.2.2.2.2.2.2.1 t_141.2.2.2.2.2.2.2.2.1 t_141.2.2.2.2.2.2.2.2.2.1 t_141.2.2.2.2.2.2.2.2.2.2.1 t_141.2.2.2.2.2.2.2.2.2.2.2.1 t_141.2.2.2.2.2.2.2.2.2.2.2.2.1 t_141.2.2.2.2.2.2.2.2.2.2.2.2.2.1 t_141.2.2.2.2.2.2.2.2.2.2.2.2.2.2.1 t_141.2.2.2.2.2.2.2.2.2.2.2.2.2.2.2.1 t_141.2.2.2.2.2.2.2.2.2.2.2.2.2.2.2.2.1 t_141.2.2.2.2.2.2.2.2.2.2.2.2.2.2.2.2.2.1 t_141.2.2.2.2.2.2.2.2.2.2.2.2.2.2.2.2.2.2.1 t_141.2.2.2.2.2.2.2.2.2.2.2.2.2.2.2.2.2.2.2.1 t_141.2.2.2.2.2.2.2.2.2.2.2.2.2.2.2.2.2.2.2.2.1 t_141.2.2.2.2.2.2.2.2.2.2.2.2.2.2.2.2.2.2.2.2.2.1 t_141.2.2.2.2.2.2.2.2.2.2.2.2.2.2.2.2.2.2.2.2.2.2.1 t_141.2.2.2.2.2.2.2.2.2.2.2.2.2.2.2.2.2.2.2.2.2.2.2.1 t_141.2.2.2.2.2.2.2.2.2.2.2.2.2.2.2.2.2.2.2.2.2.2.2.2.1 t_141.2.2.2.2.2.2.2.2.2.2.2.2.2.2.2.2.2.2.2.2.2.2.2.2.2.1 t_141.2.2.2.2.2.2.2.2.2.2.2.2.2.2.2.2.2.2.2.2.2.2.2.2.2.2.1 t_141.2.2.2.2.2.2.2.2.2.2.2.2.2.2.2.2.2.2.2.2.2.2.2.2.2.2.2.1 t_141.2.2.2.2.2.2.2.2.2.2.2.2.2.2.2.2.2.2.2.2.2.2.2.2.2.2.2.2.1 t_141.2.2.2.2.2.2.2.2.2.2.2.2.2.2.2.2.2.2.2.2.2.2.2.2.2.2.2.2.2.1 t_141.2.2.2.2.2.2.2.2.2.2.2.2.2.2.2.2.2.2.2.2.2.2.2.2.2.2.2.2.2.2.1 t_141.2.2.2.2.2.2.2.2.2.2.2.2.2.2.2.2.2.2.2.2.2.2.2.2.2.2.2.2.2.2.2 0) fun t_161 =>
  Option.bind (gath_Gather_Ready.f K t_161.2.1 t_161.2.2.1 t_161.2.2.2.1 t_161.2.2.2.2.1 t_161.2.2.2.2.2.1 t_161.2.2.2.2.2.2.1 t_161.2.2.2.2.2.2.2.1 t_161.2.2.2.2.2.2.2.2.1 t_161.2.2.2.2.2.2.2.2.2.1 t_161.2.2.2.2.2.2.2.2.2.2.1 t_161.2.2.2.2.2.2.2.2.2.2.2.1 t_161.2.2.2.2.2.2.2.2.2.2.2.2.1 t_161.2.2.2.2.2.2.2.2.2.2.2.2.2.1 t_161.2.2.2.2.2.2.2.2.2.2.2.2.2.2.1 t_161.2.2.2.2.2.2.2.2.2.2.2.2.2.2.2.1 t_161.2.2.2.2.2.2.2.2.2.2.2.2.2.2.2.2.1 t_161.2.2.2.2.2.2.2.2.2.2.2.2.2.2.2.2.2.1 t_161.2.2.2.2.2.2.2.2.2.2.2.2.2.2.2.2.2.2.1 t_161.2.2.2.2.2.2.2.2.2.2.2.2.2.2.2.2.2.2.2.1 t_161.2.2.2.2.2.2.2.2.2.2.2.2.2.2.2.2.2.2.2.2.1 t_161.2.2.2.2.2.2.2.2.2.2.2.2.2.2.2.2.2.2.2.2.2.1 t_161.2.2.2.2.2.2.2.2.2.2.2.2.2.2.2.2.2.2.2.2.2.2.1 t_161.2.2.2.2.2.2.2.2.2.2.2.2.2.2.2.2.2.2.2.2.2.2.2.1 t_161.2.2.2.2.2.2.2.2.2.2.2.2.2.2.2.2.2.2.2.2.2.2.2.2.1 t_161.2.2.2.2.2.2.2.2.2.2.2.2.2.2.2.2.2.2.2.2.2.2.2.2.2.1 t_161.2.2.2.2.2.2.2.2.2.2.2.2.2.2.2.2.2.2.2.2.2.2.2.2.2.2.1 t_161.2.2.2.2.2.2.2.2.2.2.2.2.2.2.2.2.2.2.2.2.2.2.2.2.2.2.2.1 t_161.2.2.2.2.2.2.2.2.2.2.2.2.2.2.2.2.2.2.2.2.2.2.2.2.2.2.2.2.1 t_161.2.2.2.2.2.2.2.2.2.2.2.2.2.2.2.2.2.2.2.2.2.2.2.2.2.2.2.2.2.1 t_161.2.2.2.2.2.2.2.2.2.2.2.2.2.2.2.2.2.2.2.2.2.2.2.2.2.2.2.2.2.2.1 t_161.2.2.2.2.2.2.2.2.2.2.2.2.2.2.2.2.2.2.2.2.2.2.2.2.2.2.2.2.2.2.2 2) fun t_181 =>
  Option.bind (gath_Gather_Unready.f K t_181.2.1 t_181.2.2.1 t_181.2.2.2.1 t_181.2.2.2.2.1 t_181.2.2.2.2.2.1 t_181.2.2.2.2.2.2.1 t_181.2.2.2.2.2.2.2.1 t_181.2.2.2.2.2.2.2.2.1 t_181.2.2.2.2.2.2.2.2.2.1 t_181.2.2.2.2.2.2.2.2.2.2.1 t_181.2.2.2.2.2.2.2.2.2.2.2.1 t_181.2.2.2.2.2.2.2.2.2.2.2.2.1 t_181.2.2.2.2.2.2.2.2.2.2.2.2.2.1 t_181.2.2.2.2.2.2.2.2.2.2.2.2.2.2.1 t_181.2.2.2.2.2.2.2.2.2.2.2.2.2.2.2.1 t_181.2.2.2.2.2.2.2.2.2.2.2.2.2.2.2.2.1 t_181.2.2.2.2.2.2.2.2.2.2.2.2.2.2.2.2.2.1 t_181.2.2.2.2.2.2.2.2.2.2.2.2.2.2.2.2.2.2.1 t_181.2.2.2.2.2.2.2.2.2.2.2.2.2.2.2.2.2.2.2.1 t_181.2.2.2.2.2.2.2.2.2.2.2.2.2.2.2.2.2.2.2.2.1 t_181.2.2.2.2.2.2.2.2.2.2.2.2.2.2.2.2.2.2.2.2.2.1 t_181.2.2.2.2.2.2.2.2.2.2.2.2.2.2.2.2.2.2.2.2.2.2.1 t_181.2.2.2.2.2.2.2.2.2.2.2.2.2.2.2.2.2.2.2.2.2.2.2.1 t_181.2.2.2.2.2.2.2.2.2.2.2.2.2.2.2.2.2.2.2.2.2.2.2.2.1 t_181.2.2.2.2.2.2.2.2.2.2.2.2.2.2.2.2.2.2.2.2.2.2.2.2.2.1 t_181.2.2.2.2.2.2.2.2.2.2.2.2.2.2.2.2.2.2.2.2.2.2.2.2.2.2.1 t_181.2.2.2.2.2.2.2.2.2.2.2.2.2.2.2.2.2.2.2.2.2.2.2.2.2.2.2.1 t_181.2.2.2.2.2.2.2.2.2.2.2.2.2.2.2.2.2.2.2.2.2.2.2.2.2.2.2.2.1 t_181.2.2.2.2.2.2.2.2.2.2.2.2.2.2.2.2.2.2.2.2.2.2.2.2.2.2.2.2.2.1 t_181.2.2.2.2.2.2.2.2.2.2.2.2.2.2.2.2.2.2.2.2.2.2.2.2.2.2.2.2.2.2.1 t_181.2.2.2.2.2.2.2.2.2.2.2.2.2.2.2.2.2.2.2.2.2.2.2.2.2.2.2.2.2.2.2) fun t_201 =>
  Option.bind (gath_Gather_Ready.f K t_181.2.1 t_181.2.2.1 t_181.2.2.2.1 t_181.2.2.2.2.1 t_181.2.2.2.2.2.1 t_181.2.2.2.2.2.2.1 t_181.2.2.2.2.2.2.2.1 t_181.2.2.2.2.2.2.2.2.1 t_181.2.2.2.2.2.2.2.2.2.1 t_181.2.2.2.2.2.2.2.2.2.2.1 t_181.2.2.2.2.2.2.2.2.2.2.2.1 t_181.2.2.2.2.2.2.2.2.2.2.2.2.1 t_181.2.2.2.2.2.2.2.2.2.2.2.2.2.1 t_181.2.2.2.2.2.2.2.2.2.2.2.2.2.2.1 t_181.2.2.2.2.2.2.2.2.2.2.2.2.2.2.2.1 t_181.2.2.2.2.2.2.2.2.2.2.2.2.2.2.2.2.1 t_181.2.2.2.2.2.2.2.2.2.2.2.2.2.2.2.2.2.1 t_181.2.2.2.2.2.2.2.2.2.2.2.2.2.2.2.2.2.2.1 t_181.2.2.2.2.2.2.2.2.2.2.2.2.2.2.2.2.2.2.2.1 t_181.2.2.2.2.2.2.2.2.2.2.2.2.2.2.2.2.2.2.2.2.1 t_181.2.2.2.2.2.2.2.2.2.2.2.2.2.2.2.2.2.2.2.2.2.1 t_181.2.2.2.2.2.2.2.2.2.2.2.2.2.2.2.2.2.2.2.2.2.2.1 t_181.2.2.2.2.2.2.2.2.2.2.2.2.2.2.2.2.2.2.2.2.2.2.2.1 t_181.2.2.2.2.2.2.2.2.2.2.2.2.2.2.2.2.2.2.2.2.2.2.2.2.1 t_181.2.2.2.2.2.2.2.2.2.2.2.2.2.2.2.2.2.2.2.2.2.2.2.2.2.1 t_181.2.2.2.2.2.2.2.2.2.2.2.2.2.2.2.2.2.2.2.2.2.2.2.2.2.2.1 t_181.2.2.2.2.2.2.2.2.2.2.2.2.2.2.2.2.2.2.2.2.2.2.2.2.2.2.2.1 t_181.2.2.2.2.2.2.2.2.2.2.2.2.2.2.2.2.2.2.2.2.2.2.2.2.2.2.2.2.1 t_181.2.2.2.2.2.2.2.2.2.2.2.2.2.2.2.2.2.2.2.2.2.2.2.2.2.2.2.2.2.1 t_181.2.2.2.2.2.2.2.2.2.2.2.2.2.2.2.2.2.2.2.2.2.2.2.2.2.2.2.2.2.2.1 t_181.2.2.2.2.2.2.2.2.2.2.2.2.2.2.2.2.2.2.2.2.2.2.2.2.2.2.2.2.2.2.2 1) fun t_209 =>
  if t_23.2.1 = true then (
  none)
  else (
  if t_58.1 = true then (
  if t_78.1 = true then (
  none)
  else (
  Option.bind (hocketref1_SameInts.f K t_98 ([2] : List Int)) fun t_239 =>
  if t_239 = true then (
  if t_106.2.1 = true then (
  if t_106.1.Kind = 3 then (
  if t_106.1.Members = 3 then (
  if t_106.1.Source = 0 then (
  if t_106.1.From = 1 then (
  if t_106.1.View = 9 then (
  if t_141.1 = true then (
  none)
  else (
  if t_161.1 = true then (
  if t_181.1 = true then (
  none)
  else (
  Option.bind (hocketref1_SameInts.f K t_201 ([1] : List Int)) fun t_259 =>
  if t_259 = true then (
  if t_209.1 = true then (
  Option.bind (gath_Gather_Done.f K t_209.2.1 t_209.2.2.1 t_209.2.2.2.1 t_209.2.2.2.2.1 t_209.2.2.2.2.2.1 t_209.2.2.2.2.2.2.1 t_209.2.2.2.2.2.2.2.1 t_209.2.2.2.2.2.2.2.2.1 t_209.2.2.2.2.2.2.2.2.2.1 t_209.2.2.2.2.2.2.2.2.2.2.1 t_209.2.2.2.2.2.2.2.2.2.2.2.1 t_209.2.2.2.2.2.2.2.2.2.2.2.2.1 t_209.2.2.2.2.2.2.2.2.2.2.2.2.2.1 t_209.2.2.2.2.2.2.2.2.2.2.2.2.2.2.1 t_209.2.2.2.2.2.2.2.2.2.2.2.2.2.2.2.1 t_209.2.2.2.2.2.2.2.2.2.2.2.2.2.2.2.2.1 t_209.2.2.2.2.2.2.2.2.2.2.2.2.2.2.2.2.2.1 t_209.2.2.2.2.2.2.2.2.2.2.2.2.2.2.2.2.2.2.1 t_209.2.2.2.2.2.2.2.2.2.2.2.2.2.2.2.2.2.2.2.1 t_209.2.2.2.2.2.2.2.2.2.2.2.2.2.2.2.2.2.2.2.2.1 t_209.2.2.2.2.2.2.2.2.2.2.2.2.2.2.2.2.2.2.2.2.2.1 t_209.2.2.2.2.2.2.2.2.2.2.2.2.2.2.2.2.2.2.2.2.2.2.1 t_209.2.2.2.2.2.2.2.2.2.2.2.2.2.2.2.2.2.2.2.2.2.2.2.1 t_209.2.2.2.2.2.2.2.2.2.2.2.2.2.2.2.2.2.2.2.2.2.2.2.2.1 t_209.2.2.2.2.2.2.2.2.2.2.2.2.2.2.2.2.2.2.2.2.2.2.2.2.2.1 t_209.2.2.2.2.2.2.2.2.2.2.2.2.2.2.2.2.2.2.2.2.2.2.2.2.2.2.1 t_209.2.2.2.2.2.2.2.2.2.2.2.2.2.2.2.2.2.2.2.2.2.2.2.2.2.2.2.1 t_209.2.2.2.2.2.2.2.2.2.2.2.2.2.2.2.2.2.2.2.2.2.2.2.2.2.2.2.2.1 t_209.2.2.2.2.2.2.2.2.2.2.2.2.2.2.2.2.2.2.2.2.2.2.2.2.2.2.2.2.2.1 t_209.2.2.2.2.2.2.2.2.2.2.2.2.2.2.2.2.2.2.2.2.2.2.2.2.2.2.2.2.2.2.1 t_209.2.2.2.2.2.2.2.2.2.2.2.2.2.2.2.2.2.2.2.2.2.2.2.2.2.2.2.2.2.2.2) fun t_265 =>
  if t_265 = true then (
  Option.bind (gath_Gather_All.f K t_209.2.1 t_209.2.2.1 t_209.2.2.2.1 t_209.2.2.2.2.1 t_209.2.2.2.2.2.1 t_209.2.2.2.2.2.2.1 t_209.2.2.2.2.2.2.2.1 t_209.2.2.2.2.2.2.2.2.1 t_209.2.2.2.2.2.2.2.2.2.1 t_209.2.2.2.2.2.2.2.2.2.2.1 t_209.2.2.2.2.2.2.2.2.2.2.2.1 t_209.2.2.2.2.2.2.2.2.2.2.2.2.1 t_209.2.2.2.2.2.2.2.2.2.2.2.2.2.1 t_209.2.2.2.2.2.2.2.2.2.2.2.2.2.2.1 t_209.2.2.2.2.2.2.2.2.2.2.2.2.2.2.2.1 t_209.2.2.2.2.2.2.2.2.2.2.2.2.2.2.2.2.1 t_209.2.2.2.2.2.2.2.2.2.2.2.2.2.2.2.2.2.1 t_209.2.2.2.2.2.2.2.2.2.2.2.2.2.2.2.2.2.2.1 t_209.2.2.2.2.2.2.2.2.2.2.2.2.2.2.2.2.2.2.2.1 t_209.2.2.2.2.2.2.2.2.2.2.2.2.2.2.2.2.2.2.2.2.1 t_209.2.2.2.2.2.2.2.2.2.2.2.2.2.2.2.2.2.2.2.2.2.1 t_209.2.2.2.2.2.2.2.2.2.2.2.2.2.2.2.2.2.2.2.2.2.2.1 t_209.2.2.2.2.2.2.2.2.2.2.2.2.2.2.2.2.2.2.2.2.2.2.2.1 t_209.2.2.2.2.2.2.2.2.2.2.2.2.2.2.2.2.2.2.2.2.2.2.2.2.1 t_209.2.2.2.2.2.2.2.2.2.2.2.2.2.2.2.2.2.2.2.2.2.2.2.2.2.1 t_209.2.2.2.2.2.2.2.2.2.2.2.2.2.2.2.2.2.2.2.2.2.2.2.2.2.2.1 t_209.2.2.2.2.2.2.2.2.2.2.2.2.2.2.2.2.2.2.2.2.2.2.2.2.2.2.2.1 t_209.2.2.2.2.2.2.2.2.2.2.2.2.2.2.2.2.2.2.2.2.2.2.2.2.2.2.2.2.1 t_209.2.2.2.2.2.2.2.2.2.2.2.2.2.2.2.2.2.2.2.2.2.2.2.2.2.2.2.2.2.1 t_209.2.2.2.2.2.2.2.2.2.2.2.2.2.2.2.2.2.2.2.2.2.2.2.2.2.2.2.2.2.2.1 t_209.2.2.2.2.2.2.2.2.2.2.2.2.2.2.2.2.2.2.2.2.2.2.2.2.2.2.2.2.2.2.2) fun t_270 =>
  if t_270 = true then (
  none)
  else (
  some ()))
  else (
  none))
  else (
  none))
  else (
  none)))
  else (
  none)))
  else (
  none))
  else (
  none))
  else (
  none))
  else (
  none))
  else (
  none))
  else (
  none))
  else (
  none)))
  else (
  none))

def hocketlaw18_GathForms.J1 (K : Nat) (t_1 : Int) (x_26 : gath_Gather) : Option (Unit) :=
  Option.bind (gath_Gather_Commit.f K x_26.n x_26.id x_26.v x_26.l x_26.come x_26.ready x_26.commit.Kind x_26.commit.From x_26.commit.To x_26.commit.View x_26.commit.Inst x_26.commit.Len x_26.commit.Has x_26.commit.Members x_26.commit.Source x_26.commit.At x_26.commit.Total x_26.commit.Data x_26.commit.Hop x_26.commit.Seq x_26.commit.Have x_26.commit.Need x_26.commit.Index x_26.commit.Entry.Sess x_26.commit.Entry.Seq x_26.commit.Entry.Cmd.Kind x_26.commit.Entry.Cmd.Who x_26.commit.Entry.Cmd.Key x_26.commit.Entry.Cmd.Val x_26.commit.Entry.Cmd.Old x_26.is) fun t_45 =>
  if t_45.2.1 = true then (
  none)
  else (
  Option.bind (gath_Gather_Done.f K t_45.2.2.1 t_45.2.2.2.1 t_45.2.2.2.2.1 t_45.2.2.2.2.2.1 t_45.2.2.2.2.2.2.1 t_45.2.2.2.2.2.2.2.1 t_45.2.2.2.2.2.2.2.2.1 t_45.2.2.2.2.2.2.2.2.2.1 t_45.2.2.2.2.2.2.2.2.2.2.1 t_45.2.2.2.2.2.2.2.2.2.2.2.1 t_45.2.2.2.2.2.2.2.2.2.2.2.2.1 t_45.2.2.2.2.2.2.2.2.2.2.2.2.2.1 t_45.2.2.2.2.2.2.2.2.2.2.2.2.2.2.1 t_45.2.2.2.2.2.2.2.2.2.2.2.2.2.2.2.1 t_45.2.2.2.2.2.2.2.2.2.2.2.2.2.2.2.2.1 t_45.2.2.2.2.2.2.2.2.2.2.2.2.2.2.2.2.2.1 t_45.2.2.2.2.2.2.2.2.2.2.2.2.2.2.2.2.2.2.1 t_45.2.2.2.2.2.2.2.2.2.2.2.2.2.2.2.2.2.2.2.1 t_45.2.2.2.2.2.2.2.2.2.2.2.2.2.2.2.2.2.2.2.2.1 t_45.2.2.2.2.2.2.2.2.2.2.2.2.2.2.2.2.2.2.2.2.2.1 t_45.2.2.2.2.2.2.2.2.2.2.2.2.2.2.2.2.2.2.2.2.2.2.1 t_45.2.2.2.2.2.2.2.2.2.2.2.2.2.2.2.2.2.2.2.2.2.2.2.1 t_45.2.2.2.2.2.2.2.2.2.2.2.2.2.2.2.2.2.2.2.2.2.2.2.2.1 t_45.2.2.2.2.2.2.2.2.2.2.2.2.2.2.2.2.2.2.2.2.2.2.2.2.2.1 t_45.2.2.2.2.2.2.2.2.2.2.2.2.2.2.2.2.2.2.2.2.2.2.2.2.2.2.1 t_45.2.2.2.2.2.2.2.2.2.2.2.2.2.2.2.2.2.2.2.2.2.2.2.2.2.2.2.1 t_45.2.2.2.2.2.2.2.2.2.2.2.2.2.2.2.2.2.2.2.2.2.2.2.2.2.2.2.2.1 t_45.2.2.2.2.2.2.2.2.2.2.2.2.2.2.2.2.2.2.2.2.2.2.2.2.2.2.2.2.2.1 t_45.2.2.2.2.2.2.2.2.2.2.2.2.2.2.2.2.2.2.2.2.2.2.2.2.2.2.2.2.2.2.1 t_45.2.2.2.2.2.2.2.2.2.2.2.2.2.2.2.2.2.2.2.2.2.2.2.2.2.2.2.2.2.2.2.1 t_45.2.2.2.2.2.2.2.2.2.2.2.2.2.2.2.2.2.2.2.2.2.2.2.2.2.2.2.2.2.2.2.2) fun t_82 =>
  if t_82 = true then (
  none)
  else (
  Option.bind (gath_Gather_Ready.f K t_45.2.2.1 t_45.2.2.2.1 t_45.2.2.2.2.1 t_45.2.2.2.2.2.1 t_45.2.2.2.2.2.2.1 t_45.2.2.2.2.2.2.2.1 t_45.2.2.2.2.2.2.2.2.1 t_45.2.2.2.2.2.2.2.2.2.1 t_45.2.2.2.2.2.2.2.2.2.2.1 t_45.2.2.2.2.2.2.2.2.2.2.2.1 t_45.2.2.2.2.2.2.2.2.2.2.2.2.1 t_45.2.2.2.2.2.2.2.2.2.2.2.2.2.1 t_45.2.2.2.2.2.2.2.2.2.2.2.2.2.2.1 t_45.2.2.2.2.2.2.2.2.2.2.2.2.2.2.2.1 t_45.2.2.2.2.2.2.2.2.2.2.2.2.2.2.2.2.1 t_45.2.2.2.2.2.2.2.2.2.2.2.2.2.2.2.2.2.1 t_45.2.2.2.2.2.2.2.2.2.2.2.2.2.2.2.2.2.2.1 t_45.2.2.2.2.2.2.2.2.2.2.2.2.2.2.2.2.2.2.2.1 t_45.2.2.2.2.2.2.2.2.2.2.2.2.2.2.2.2.2.2.2.2.1 t_45.2.2.2.2.2.2.2.2.2.2.2.2.2.2.2.2.2.2.2.2.2.1 t_45.2.2.2.2.2.2.2.2.2.2.2.2.2.2.2.2.2.2.2.2.2.2.1 t_45.2.2.2.2.2.2.2.2.2.2.2.2.2.2.2.2.2.2.2.2.2.2.2.1 t_45.2.2.2.2.2.2.2.2.2.2.2.2.2.2.2.2.2.2.2.2.2.2.2.2.1 t_45.2.2.2.2.2.2.2.2.2.2.2.2.2.2.2.2.2.2.2.2.2.2.2.2.2.1 t_45.2.2.2.2.2.2.2.2.2.2.2.2.2.2.2.2.2.2.2.2.2.2.2.2.2.2.1 t_45.2.2.2.2.2.2.2.2.2.2.2.2.2.2.2.2.2.2.2.2.2.2.2.2.2.2.2.1 t_45.2.2.2.2.2.2.2.2.2.2.2.2.2.2.2.2.2.2.2.2.2.2.2.2.2.2.2.2.1 t_45.2.2.2.2.2.2.2.2.2.2.2.2.2.2.2.2.2.2.2.2.2.2.2.2.2.2.2.2.2.1 t_45.2.2.2.2.2.2.2.2.2.2.2.2.2.2.2.2.2.2.2.2.2.2.2.2.2.2.2.2.2.2.1 t_45.2.2.2.2.2.2.2.2.2.2.2.2.2.2.2.2.2.2.2.2.2.2.2.2.2.2.2.2.2.2.2.1 t_45.2.2.2.2.2.2.2.2.2.2.2.2.2.2.2.2.2.2.2.2.2.2.2.2.2.2.2.2.2.2.2.2 t_1) fun t_87 =>
  if t_87.1 = true then (
  none)
  else (
  Option.bind (gath_Gather_Unready.f K t_87.2.1 t_87.2.2.1 t_87.2.2.2.1 t_87.2.2.2.2.1 t_87.2.2.2.2.2.1 t_87.2.2.2.2.2.2.1 t_87.2.2.2.2.2.2.2.1 t_87.2.2.2.2.2.2.2.2.1 t_87.2.2.2.2.2.2.2.2.2.1 t_87.2.2.2.2.2.2.2.2.2.2.1 t_87.2.2.2.2.2.2.2.2.2.2.2.1 t_87.2.2.2.2.2.2.2.2.2.2.2.2.1 t_87.2.2.2.2.2.2.2.2.2.2.2.2.2.1 t_87.2.2.2.2.2.2.2.2.2.2.2.2.2.2.1 t_87.2.2.2.2.2.2.2.2.2.2.2.2.2.2.2.1 t_87.2.2.2.2.2.2.2.2.2.2.2.2.2.2.2.2.1 t_87.2.2.2.2.2.2.2.2.2.2.2.2.2.2.2.2.2.1 t_87.2.2.2.2.2.2.2.2.2.2.2.2.2.2.2.2.2.2.1 t_87.2.2.2.2.2.2.2.2.2.2.2.2.2.2.2.2.2.2.2.1 t_87.2.2.2.2.2.2.2.2.2.2.2.2.2.2.2.2.2.2.2.2.1 t_87.2.2.2.2.2.2.2.2.2.2.2.2.2.2.2.2.2.2.2.2.2.1 t_87.2.2.2.2.2.2.2.2.2.2.2.2.2.2.2.2.2.2.2.2.2.2.1 t_87.2.2.2.2.2.2.2.2.2.2.2.2.2.2.2.2.2.2.2.2.2.2.2.1 t_87.2.2.2.2.2.2.2.2.2.2.2.2.2.2.2.2.2.2.2.2.2.2.2.2.1 t_87.2.2.2.2.2.2.2.2.2.2.2.2.2.2.2.2.2.2.2.2.2.2.2.2.2.1 t_87.2.2.2.2.2.2.2.2.2.2.2.2.2.2.2.2.2.2.2.2.2.2.2.2.2.2.1 t_87.2.2.2.2.2.2.2.2.2.2.2.2.2.2.2.2.2.2.2.2.2.2.2.2.2.2.2.1 t_87.2.2.2.2.2.2.2.2.2.2.2.2.2.2.2.2.2.2.2.2.2.2.2.2.2.2.2.2.1 t_87.2.2.2.2.2.2.2.2.2.2.2.2.2.2.2.2.2.2.2.2.2.2.2.2.2.2.2.2.2.1 t_87.2.2.2.2.2.2.2.2.2.2.2.2.2.2.2.2.2.2.2.2.2.2.2.2.2.2.2.2.2.2.1 t_87.2.2.2.2.2.2.2.2.2.2.2.2.2.2.2.2.2.2.2.2.2.2.2.2.2.2.2.2.2.2.2) fun t_108 =>
  if (t_108.length : Int) = 0 then (
  Option.bind (hocketlaw18_awake.f K) fun t_117 =>
  some ())
  else (
  none))))
def hocketlaw18_GathForms.J5 (K : Nat) (again_141 : Int × Int × gath_Gather → Option (Unit)) (x_192 : Int) (x_123 : Int) (t_169 : Bool × Int × Int × Int × (List api_Msg) × Int × Int × Int × Int × Int × Int × Int × Int × Bool × Int × Int × Int × Int × (List UInt8) × Int × Int × (List Int) × (List Int) × Int × Int × Int × Int × Int × (List UInt8) × (List UInt8) × (List UInt8) × Bool) (x_197 : Bool) : Option (Unit) :=
  if x_197 = true then (
  none)
  else (
  again_141 (x_192, w64 (x_123 + 1), (⟨t_169.2.1, t_169.2.2.1, t_169.2.2.2.1, t_169.2.2.2.2.1, t_169.2.2.2.2.2.1, t_169.2.2.2.2.2.2.1, (⟨t_169.2.2.2.2.2.2.2.1, t_169.2.2.2.2.2.2.2.2.1, t_169.2.2.2.2.2.2.2.2.2.1, t_169.2.2.2.2.2.2.2.2.2.2.1, t_169.2.2.2.2.2.2.2.2.2.2.2.1, t_169.2.2.2.2.2.2.2.2.2.2.2.2.1, t_169.2.2.2.2.2.2.2.2.2.2.2.2.2.1, t_169.2.2.2.2.2.2.2.2.2.2.2.2.2.2.1, t_169.2.2.2.2.2.2.2.2.2.2.2.2.2.2.2.1, t_169.2.2.2.2.2.2.2.2.2.2.2.2.2.2.2.2.1, t_169.2.2.2.2.2.2.2.2.2.2.2.2.2.2.2.2.2.1, t_169.2.2.2.2.2.2.2.2.2.2.2.2.2.2.2.2.2.2.1, t_169.2.2.2.2.2.2.2.2.2.2.2.2.2.2.2.2.2.2.2.1, t_169.2.2.2.2.2.2.2.2.2.2.2.2.2.2.2.2.2.2.2.2.1, t_169.2.2.2.2.2.2.2.2.2.2.2.2.2.2.2.2.2.2.2.2.2.1, t_169.2.2.2.2.2.2.2.2.2.2.2.2.2.2.2.2.2.2.2.2.2.2.1, t_169.2.2.2.2.2.2.2.2.2.2.2.2.2.2.2.2.2.2.2.2.2.2.2.1, (⟨t_169.2.2.2.2.2.2.2.2.2.2.2.2.2.2.2.2.2.2.2.2.2.2.2.2.1, t_169.2.2.2.2.2.2.2.2.2.2.2.2.2.2.2.2.2.2.2.2.2.2.2.2.2.1, (⟨t_169.2.2.2.2.2.2.2.2.2.2.2.2.2.2.2.2.2.2.2.2.2.2.2.2.2.2.1, t_169.2.2.2.2.2.2.2.2.2.2.2.2.2.2.2.2.2.2.2.2.2.2.2.2.2.2.2.1, t_169.2.2.2.2.2.2.2.2.2.2.2.2.2.2.2.2.2.2.2.2.2.2.2.2.2.2.2.2.1, t_169.2.2.2.2.2.2.2.2.2.2.2.2.2.2.2.2.2.2.2.2.2.2.2.2.2.2.2.2.2.1, t_169.2.2.2.2.2.2.2.2.2.2.2.2.2.2.2.2.2.2.2.2.2.2.2.2.2.2.2.2.2.2.1⟩ : api_Cmd)⟩ : api_Entry)⟩ : api_Msg), t_169.2.2.2.2.2.2.2.2.2.2.2.2.2.2.2.2.2.2.2.2.2.2.2.2.2.2.2.2.2.2.2⟩ : gath_Gather)))
def hocketlaw18_GathForms.J4 (K : Nat) (t_169 : Bool × Int × Int × Int × (List api_Msg) × Int × Int × Int × Int × Int × Int × Int × Int × Bool × Int × Int × Int × Int × (List UInt8) × Int × Int × (List Int) × (List Int) × Int × Int × Int × Int × Int × (List UInt8) × (List UInt8) × (List UInt8) × Bool) (x0 : Int) (again_141 : Int × Int × gath_Gather → Option (Unit)) (x_123 : Int) (x_192 : Int) : Option (Unit) :=
  Option.bind (gath_Gather_Absent.f K t_169.2.1 t_169.2.2.1 t_169.2.2.2.1 t_169.2.2.2.2.1 t_169.2.2.2.2.2.1 t_169.2.2.2.2.2.2.1 t_169.2.2.2.2.2.2.2.1 t_169.2.2.2.2.2.2.2.2.1 t_169.2.2.2.2.2.2.2.2.2.1 t_169.2.2.2.2.2.2.2.2.2.2.1 t_169.2.2.2.2.2.2.2.2.2.2.2.1 t_169.2.2.2.2.2.2.2.2.2.2.2.2.1 t_169.2.2.2.2.2.2.2.2.2.2.2.2.2.1 t_169.2.2.2.2.2.2.2.2.2.2.2.2.2.2.1 t_169.2.2.2.2.2.2.2.2.2.2.2.2.2.2.2.1 t_169.2.2.2.2.2.2.2.2.2.2.2.2.2.2.2.2.1 t_169.2.2.2.2.2.2.2.2.2.2.2.2.2.2.2.2.2.1 t_169.2.2.2.2.2.2.2.2.2.2.2.2.2.2.2.2.2.2.1 t_169.2.2.2.2.2.2.2.2.2.2.2.2.2.2.2.2.2.2.2.1 t_169.2.2.2.2.2.2.2.2.2.2.2.2.2.2.2.2.2.2.2.2.1 t_169.2.2.2.2.2.2.2.2.2.2.2.2.2.2.2.2.2.2.2.2.2.1 t_169.2.2.2.2.2.2.2.2.2.2.2.2.2.2.2.2.2.2.2.2.2.2.1 t_169.2.2.2.2.2.2.2.2.2.2.2.2.2.2.2.2.2.2.2.2.2.2.2.1 t_169.2.2.2.2.2.2.2.2.2.2.2.2.2.2.2.2.2.2.2.2.2.2.2.2.1 t_169.2.2.2.2.2.2.2.2.2.2.2.2.2.2.2.2.2.2.2.2.2.2.2.2.2.1 t_169.2.2.2.2.2.2.2.2.2.2.2.2.2.2.2.2.2.2.2.2.2.2.2.2.2.2.1 t_169.2.2.2.2.2.2.2.2.2.2.2.2.2.2.2.2.2.2.2.2.2.2.2.2.2.2.2.1 t_169.2.2.2.2.2.2.2.2.2.2.2.2.2.2.2.2.2.2.2.2.2.2.2.2.2.2.2.2.1 t_169.2.2.2.2.2.2.2.2.2.2.2.2.2.2.2.2.2.2.2.2.2.2.2.2.2.2.2.2.2.1 t_169.2.2.2.2.2.2.2.2.2.2.2.2.2.2.2.2.2.2.2.2.2.2.2.2.2.2.2.2.2.2.1 t_169.2.2.2.2.2.2.2.2.2.2.2.2.2.2.2.2.2.2.2.2.2.2.2.2.2.2.2.2.2.2.2) fun t_201 =>
  Option.bind (hocketref11_Members.f K (bandn .i64 (w64 ((shl .i64 1 (wu64 (w64 ((Int.tmod (band .i64 x0 255) 7) + 1)))) - 1)) x_192)) fun t_209 =>
  Option.bind (hocketref1_SameInts.f K t_201 t_209) fun t_217 =>
  if t_217 = true then (
  Option.bind (gath_Gather_All.f K t_169.2.1 t_169.2.2.1 t_169.2.2.2.1 t_169.2.2.2.2.1 t_169.2.2.2.2.2.1 t_169.2.2.2.2.2.2.1 t_169.2.2.2.2.2.2.2.1 t_169.2.2.2.2.2.2.2.2.1 t_169.2.2.2.2.2.2.2.2.2.1 t_169.2.2.2.2.2.2.2.2.2.2.1 t_169.2.2.2.2.2.2.2.2.2.2.2.1 t_169.2.2.2.2.2.2.2.2.2.2.2.2.1 t_169.2.2.2.2.2.2.2.2.2.2.2.2.2.1 t_169.2.2.2.2.2.2.2.2.2.2.2.2.2.2.1 t_169.2.2.2.2.2.2.2.2.2.2.2.2.2.2.2.1 t_169.2.2.2.2.2.2.2.2.2.2.2.2.2.2.2.2.1 t_169.2.2.2.2.2.2.2.2.2.2.2.2.2.2.2.2.2.1 t_169.2.2.2.2.2.2.2.2.2.2.2.2.2.2.2.2.2.2.1 t_169.2.2.2.2.2.2.2.2.2.2.2.2.2.2.2.2.2.2.2.1 t_169.2.2.2.2.2.2.2.2.2.2.2.2.2.2.2.2.2.2.2.2.1 t_169.2.2.2.2.2.2.2.2.2.2.2.2.2.2.2.2.2.2.2.2.2.1 t_169.2.2.2.2.2.2.2.2.2.2.2.2.2.2.2.2.2.2.2.2.2.2.1 t_169.2.2.2.2.2.2.2.2.2.2.2.2.2.2.2.2.2.2.2.2.2.2.2.1 t_169.2.2.2.2.2.2.2.2.2.2.2.2.2.2.2.2.2.2.2.2.2.2.2.2.1 t_169.2.2.2.2.2.2.2.2.2.2.2.2.2.2.2.2.2.2.2.2.2.2.2.2.2.1 t_169.2.2.2.2.2.2.2.2.2.2.2.2.2.2.2.2.2.2.2.2.2.2.2.2.2.2.1 t_169.2.2.2.2.2.2.2.2.2.2.2.2.2.2.2.2.2.2.2.2.2.2.2.2.2.2.2.1 t_169.2.2.2.2.2.2.2.2.2.2.2.2.2.2.2.2.2.2.2.2.2.2.2.2.2.2.2.2.1 t_169.2.2.2.2.2.2.2.2.2.2.2.2.2.2.2.2.2.2.2.2.2.2.2.2.2.2.2.2.2.1 t_169.2.2.2.2.2.2.2.2.2.2.2.2.2.2.2.2.2.2.2.2.2.2.2.2.2.2.2.2.2.2.1 t_169.2.2.2.2.2.2.2.2.2.2.2.2.2.2.2.2.2.2.2.2.2.2.2.2.2.2.2.2.2.2.2) fun t_222 =>
  hocketlaw18_GathForms.J5 K again_141 x_192 x_123 t_169 (!(t_222 == (x_192 == (w64 ((shl .i64 1 (wu64 (w64 ((Int.tmod (band .i64 x0 255) 7) + 1)))) - 1))))))
  else (
  hocketlaw18_GathForms.J5 K again_141 x_192 x_123 t_169 true)
def hocketlaw18_GathForms.J3 (K : Nat) (x_124 : gath_Gather) (t_153 : Int) (t_158 : Int) (x0 : Int) (again_141 : Int × Int × gath_Gather → Option (Unit)) (x_123 : Int) (x_122 : Int) (x_165 : Bool) : Option (Unit) :=
  Option.bind (gath_Gather_Take.f x_124.n x_124.id x_124.v x_124.l x_124.come x_124.ready x_124.commit.Kind x_124.commit.From x_124.commit.To x_124.commit.View x_124.commit.Inst x_124.commit.Len x_124.commit.Has x_124.commit.Members x_124.commit.Source x_124.commit.At x_124.commit.Total x_124.commit.Data x_124.commit.Hop x_124.commit.Seq x_124.commit.Have x_124.commit.Need x_124.commit.Index x_124.commit.Entry.Sess x_124.commit.Entry.Seq x_124.commit.Entry.Cmd.Kind x_124.commit.Entry.Cmd.Who x_124.commit.Entry.Cmd.Key x_124.commit.Entry.Cmd.Val x_124.commit.Entry.Cmd.Old x_124.is (⟨2, w64 ((band .i64 t_153 15) - 4), 0, w64 (9 + (w64 (Int.tdiv (band .i64 (shr .i64 t_158 4) 7) 7))), 0, 0, false, 0, 0, 0, 0, ([] : List UInt8), 0, 0, ([] : List Int), ([] : List Int), 0, (⟨0, 0, (⟨0, 0, ([] : List UInt8), ([] : List UInt8), ([] : List UInt8)⟩ : api_Cmd)⟩ : api_Entry)⟩ : api_Msg)) fun t_169 =>
  if t_169.1 = x_165 then (
  if x_165 = true then (
  hocketlaw18_GathForms.J4 K t_169 x0 again_141 x_123 (bor .i64 x_122 (shl .i64 1 (wu64 (w64 ((band .i64 t_153 15) - 4))))))
  else (
  hocketlaw18_GathForms.J4 K t_169 x0 again_141 x_123 x_122))
  else (
  none)
def hocketlaw18_GathForms.J2 (K : Nat) (x2 : List Int) (x_123 : Int) (x0 : Int) (x_124 : gath_Gather) (again_141 : Int × Int × gath_Gather → Option (Unit)) (x_122 : Int) (ex_141 : gath_Gather → Option (Unit)) (x_146 : Bool) : Option (Unit) :=
  if x_146 = true then (
  Option.bind (ix x2 x_123) fun t_153 =>
  Option.bind (ix x2 x_123) fun t_158 =>
  if (w64 ((band .i64 t_153 15) - 4)) ≥ 0 then (
  if (w64 ((band .i64 t_153 15) - 4)) < (w64 ((Int.tmod (band .i64 x0 255) 7) + 1)) then (
  if (w64 (9 + (w64 (Int.tdiv (band .i64 (shr .i64 t_158 4) 7) 7)))) = 9 then (
  hocketlaw18_GathForms.J3 K x_124 t_153 t_158 x0 again_141 x_123 x_122 ((band .i64 (shr .i64 x_122 (wu64 (mx (w64 ((band .i64 t_153 15) - 4)) 0))) 1) == 0))
  else (
  hocketlaw18_GathForms.J3 K x_124 t_153 t_158 x0 again_141 x_123 x_122 false))
  else (
  hocketlaw18_GathForms.J3 K x_124 t_153 t_158 x0 again_141 x_123 x_122 false))
  else (
  hocketlaw18_GathForms.J3 K x_124 t_153 t_158 x0 again_141 x_123 x_122 false))
  else (
  ex_141 x_124)
def hocketlaw18_GathForms.B1 (K : Nat) (x2 : List Int) (x0 : Int) (ex_141 : gath_Gather → Option (Unit)) (again_141 : Int × Int × gath_Gather → Option (Unit)) (x_122 : Int) (x_123 : Int) (x_124 : gath_Gather) : Option (Unit) :=
  if x_123 < (x2.length : Int) then (
  hocketlaw18_GathForms.J2 K x2 x_123 x0 x_124 again_141 x_122 ex_141 (decide (x_123 < 30)))
  else (
  hocketlaw18_GathForms.J2 K x2 x_123 x0 x_124 again_141 x_122 ex_141 false)
def hocketlaw18_GathForms.L1 (K : Nat) (x2 : List Int) (x0 : Int) (ex_141 : gath_Gather → Option (Unit)) : Nat → Int × Int × gath_Gather → Option (Unit) :=
  iter fun again v => hocketlaw18_GathForms.B1 K x2 x0 ex_141 again v.1 v.2.1 v.2.2
def hocketlaw18_GathForms.f (K : Nat) (x0 : Int) (x1 : Int) (x2 : List Int) : Option (Unit) :=
  Option.bind (rem (band .i64 x1 255) (w64 ((Int.tmod (band .i64 x0 255) 7) + 1))) fun t_1 =>
  Option.bind (gath_New.f (w64 ((Int.tmod (band .i64 x0 255) 7) + 1)) t_1 9 (⟨2, t_1, 0, 9, 0, 0, false, 0, 0, 0, 0, ([] : List UInt8), 0, 0, ([] : List Int), ([] : List Int), 0, (⟨0, 0, (⟨0, 0, ([] : List UInt8), ([] : List UInt8), ([] : List UInt8)⟩ : api_Cmd)⟩ : api_Entry)⟩ : api_Msg)) fun t_2 =>
  hocketlaw18_GathForms.L1 K x2 x0 (fun v => hocketlaw18_GathForms.J1 K t_1 v) K (shl .i64 1 (wu64 t_1), 0, (⟨t_2.1, t_2.2.1, t_2.2.2.1, t_2.2.2.2.1, t_2.2.2.2.2.1, t_2.2.2.2.2.2.1, (⟨t_2.2.2.2.2.2.2.1, t_2.2.2.2.2.2.2.2.1, t_2.2.2.2.2.2.2.2.2.1, t_2.2.2.2.2.2.2.2.2.2.1, t_2.2.2.2.2.2.2.2.2.2.2.1, t_2.2.2.2.2.2.2.2.2.2.2.2.1, t_2.2.2.2.2.2.2.2.2.2.2.2.2.1, t_2.2.2.2.2.2.2.2.2.2.2.2.2.2.1, t_2.2.2.2.2.2.2.2.2.2.2.2.2.2.2.1, t_2.2.2.2.2.2.2.2.2.2.2.2.2.2.2.2.1, t_2.2.2.2.2.2.2.2.2.2.2.2.2.2.2.2.2.1, t_2.2.2.2.2.2.2.2.2.2.2.2.2.2.2.2.2.2.1, t_2.2.2.2.2.2.2.2.2.2.2.2.2.2.2.2.2.2.2.1, t_2.2.2.2.2.2.2.2.2.2.2.2.2.2.2.2.2.2.2.2.1, t_2.2.2.2.2.2.2.2.2.2.2.2.2.2.2.2.2.2.2.2.2.1, t_2.2.2.2.2.2.2.2.2.2.2.2.2.2.2.2.2.2.2.2.2.2.1, t_2.2.2.2.2.2.2.2.2.2.2.2.2.2.2.2.2.2.2.2.2.2.2.1, (⟨t_2.2.2.2.2.2.2.2.2.2.2.2.2.2.2.2.2.2.2.2.2.2.2.2.1, t_2.2.2.2.2.2.2.2.2.2.2.2.2.2.2.2.2.2.2.2.2.2.2.2.2.1, (⟨t_2.2.2.2.2.2.2.2.2.2.2.2.2.2.2.2.2.2.2.2.2.2.2.2.2.2.1, t_2.2.2.2.2.2.2.2.2.2.2.2.2.2.2.2.2.2.2.2.2.2.2.2.2.2.2.1, t_2.2.2.2.2.2.2.2.2.2.2.2.2.2.2.2.2.2.2.2.2.2.2.2.2.2.2.2.1, t_2.2.2.2.2.2.2.2.2.2.2.2.2.2.2.2.2.2.2.2.2.2.2.2.2.2.2.2.2.1, t_2.2.2.2.2.2.2.2.2.2.2.2.2.2.2.2.2.2.2.2.2.2.2.2.2.2.2.2.2.2.1⟩ : api_Cmd)⟩ : api_Entry)⟩ : api_Msg), t_2.2.2.2.2.2.2.2.2.2.2.2.2.2.2.2.2.2.2.2.2.2.2.2.2.2.2.2.2.2.2⟩ : gath_Gather))

def hocketlaw18_GathReady.J3 (K : Nat) : Option (Unit) :=
  Option.bind (hocketlaw18_awake.f K) fun t_90 =>
  some ()
def hocketlaw18_GathReady.J7 (K : Nat) (again_114 : Int × Int × gath_Gather → Option (Unit)) (x_158 : Int) (x_96 : Int) (t_135 : Bool × Int × Int × Int × (List api_Msg) × Int × Int × Int × Int × Int × Int × Int × Int × Bool × Int × Int × Int × Int × (List UInt8) × Int × Int × (List Int) × (List Int) × Int × Int × Int × Int × Int × (List UInt8) × (List UInt8) × (List UInt8) × Bool) (x_163 : Bool) : Option (Unit) :=
  if x_163 = true then (
  none)
  else (
  again_114 (x_158, w64 (x_96 + 1), (⟨t_135.2.1, t_135.2.2.1, t_135.2.2.2.1, t_135.2.2.2.2.1, t_135.2.2.2.2.2.1, t_135.2.2.2.2.2.2.1, (⟨t_135.2.2.2.2.2.2.2.1, t_135.2.2.2.2.2.2.2.2.1, t_135.2.2.2.2.2.2.2.2.2.1, t_135.2.2.2.2.2.2.2.2.2.2.1, t_135.2.2.2.2.2.2.2.2.2.2.2.1, t_135.2.2.2.2.2.2.2.2.2.2.2.2.1, t_135.2.2.2.2.2.2.2.2.2.2.2.2.2.1, t_135.2.2.2.2.2.2.2.2.2.2.2.2.2.2.1, t_135.2.2.2.2.2.2.2.2.2.2.2.2.2.2.2.1, t_135.2.2.2.2.2.2.2.2.2.2.2.2.2.2.2.2.1, t_135.2.2.2.2.2.2.2.2.2.2.2.2.2.2.2.2.2.1, t_135.2.2.2.2.2.2.2.2.2.2.2.2.2.2.2.2.2.2.1, t_135.2.2.2.2.2.2.2.2.2.2.2.2.2.2.2.2.2.2.2.1, t_135.2.2.2.2.2.2.2.2.2.2.2.2.2.2.2.2.2.2.2.2.1, t_135.2.2.2.2.2.2.2.2.2.2.2.2.2.2.2.2.2.2.2.2.2.1, t_135.2.2.2.2.2.2.2.2.2.2.2.2.2.2.2.2.2.2.2.2.2.2.1, t_135.2.2.2.2.2.2.2.2.2.2.2.2.2.2.2.2.2.2.2.2.2.2.2.1, (⟨t_135.2.2.2.2.2.2.2.2.2.2.2.2.2.2.2.2.2.2.2.2.2.2.2.2.1, t_135.2.2.2.2.2.2.2.2.2.2.2.2.2.2.2.2.2.2.2.2.2.2.2.2.2.1, (⟨t_135.2.2.2.2.2.2.2.2.2.2.2.2.2.2.2.2.2.2.2.2.2.2.2.2.2.2.1, t_135.2.2.2.2.2.2.2.2.2.2.2.2.2.2.2.2.2.2.2.2.2.2.2.2.2.2.2.1, t_135.2.2.2.2.2.2.2.2.2.2.2.2.2.2.2.2.2.2.2.2.2.2.2.2.2.2.2.2.1, t_135.2.2.2.2.2.2.2.2.2.2.2.2.2.2.2.2.2.2.2.2.2.2.2.2.2.2.2.2.2.1, t_135.2.2.2.2.2.2.2.2.2.2.2.2.2.2.2.2.2.2.2.2.2.2.2.2.2.2.2.2.2.2.1⟩ : api_Cmd)⟩ : api_Entry)⟩ : api_Msg), t_135.2.2.2.2.2.2.2.2.2.2.2.2.2.2.2.2.2.2.2.2.2.2.2.2.2.2.2.2.2.2.2⟩ : gath_Gather)))
def hocketlaw18_GathReady.J6 (K : Nat) (t_135 : Bool × Int × Int × Int × (List api_Msg) × Int × Int × Int × Int × Int × Int × Int × Int × Bool × Int × Int × Int × Int × (List UInt8) × Int × Int × (List Int) × (List Int) × Int × Int × Int × Int × Int × (List UInt8) × (List UInt8) × (List UInt8) × Bool) (t_44 : api_Msg × Bool × Int × Int × Int × (List api_Msg) × Int × Int × Int × Int × Int × Int × Int × Int × Bool × Int × Int × Int × Int × (List UInt8) × Int × Int × (List Int) × (List Int) × Int × Int × Int × Int × Int × (List UInt8) × (List UInt8) × (List UInt8) × Bool) (again_114 : Int × Int × gath_Gather → Option (Unit)) (x_96 : Int) (x_158 : Int) : Option (Unit) :=
  Option.bind (gath_Gather_Done.f K t_135.2.1 t_135.2.2.1 t_135.2.2.2.1 t_135.2.2.2.2.1 t_135.2.2.2.2.2.1 t_135.2.2.2.2.2.2.1 t_135.2.2.2.2.2.2.2.1 t_135.2.2.2.2.2.2.2.2.1 t_135.2.2.2.2.2.2.2.2.2.1 t_135.2.2.2.2.2.2.2.2.2.2.1 t_135.2.2.2.2.2.2.2.2.2.2.2.1 t_135.2.2.2.2.2.2.2.2.2.2.2.2.1 t_135.2.2.2.2.2.2.2.2.2.2.2.2.2.1 t_135.2.2.2.2.2.2.2.2.2.2.2.2.2.2.1 t_135.2.2.2.2.2.2.2.2.2.2.2.2.2.2.2.1 t_135.2.2.2.2.2.2.2.2.2.2.2.2.2.2.2.2.1 t_135.2.2.2.2.2.2.2.2.2.2.2.2.2.2.2.2.2.1 t_135.2.2.2.2.2.2.2.2.2.2.2.2.2.2.2.2.2.2.1 t_135.2.2.2.2.2.2.2.2.2.2.2.2.2.2.2.2.2.2.2.1 t_135.2.2.2.2.2.2.2.2.2.2.2.2.2.2.2.2.2.2.2.2.1 t_135.2.2.2.2.2.2.2.2.2.2.2.2.2.2.2.2.2.2.2.2.2.1 t_135.2.2.2.2.2.2.2.2.2.2.2.2.2.2.2.2.2.2.2.2.2.2.1 t_135.2.2.2.2.2.2.2.2.2.2.2.2.2.2.2.2.2.2.2.2.2.2.2.1 t_135.2.2.2.2.2.2.2.2.2.2.2.2.2.2.2.2.2.2.2.2.2.2.2.2.1 t_135.2.2.2.2.2.2.2.2.2.2.2.2.2.2.2.2.2.2.2.2.2.2.2.2.2.1 t_135.2.2.2.2.2.2.2.2.2.2.2.2.2.2.2.2.2.2.2.2.2.2.2.2.2.2.1 t_135.2.2.2.2.2.2.2.2.2.2.2.2.2.2.2.2.2.2.2.2.2.2.2.2.2.2.2.1 t_135.2.2.2.2.2.2.2.2.2.2.2.2.2.2.2.2.2.2.2.2.2.2.2.2.2.2.2.2.1 t_135.2.2.2.2.2.2.2.2.2.2.2.2.2.2.2.2.2.2.2.2.2.2.2.2.2.2.2.2.2.1 t_135.2.2.2.2.2.2.2.2.2.2.2.2.2.2.2.2.2.2.2.2.2.2.2.2.2.2.2.2.2.2.1 t_135.2.2.2.2.2.2.2.2.2.2.2.2.2.2.2.2.2.2.2.2.2.2.2.2.2.2.2.2.2.2.2) fun t_168 =>
  if t_168 = (x_158 == t_44.1.Members) then (
  Option.bind (gath_Gather_Unready.f K t_135.2.1 t_135.2.2.1 t_135.2.2.2.1 t_135.2.2.2.2.1 t_135.2.2.2.2.2.1 t_135.2.2.2.2.2.2.1 t_135.2.2.2.2.2.2.2.1 t_135.2.2.2.2.2.2.2.2.1 t_135.2.2.2.2.2.2.2.2.2.1 t_135.2.2.2.2.2.2.2.2.2.2.1 t_135.2.2.2.2.2.2.2.2.2.2.2.1 t_135.2.2.2.2.2.2.2.2.2.2.2.2.1 t_135.2.2.2.2.2.2.2.2.2.2.2.2.2.1 t_135.2.2.2.2.2.2.2.2.2.2.2.2.2.2.1 t_135.2.2.2.2.2.2.2.2.2.2.2.2.2.2.2.1 t_135.2.2.2.2.2.2.2.2.2.2.2.2.2.2.2.2.1 t_135.2.2.2.2.2.2.2.2.2.2.2.2.2.2.2.2.2.1 t_135.2.2.2.2.2.2.2.2.2.2.2.2.2.2.2.2.2.2.1 t_135.2.2.2.2.2.2.2.2.2.2.2.2.2.2.2.2.2.2.2.1 t_135.2.2.2.2.2.2.2.2.2.2.2.2.2.2.2.2.2.2.2.2.1 t_135.2.2.2.2.2.2.2.2.2.2.2.2.2.2.2.2.2.2.2.2.2.1 t_135.2.2.2.2.2.2.2.2.2.2.2.2.2.2.2.2.2.2.2.2.2.2.1 t_135.2.2.2.2.2.2.2.2.2.2.2.2.2.2.2.2.2.2.2.2.2.2.2.1 t_135.2.2.2.2.2.2.2.2.2.2.2.2.2.2.2.2.2.2.2.2.2.2.2.2.1 t_135.2.2.2.2.2.2.2.2.2.2.2.2.2.2.2.2.2.2.2.2.2.2.2.2.2.1 t_135.2.2.2.2.2.2.2.2.2.2.2.2.2.2.2.2.2.2.2.2.2.2.2.2.2.2.1 t_135.2.2.2.2.2.2.2.2.2.2.2.2.2.2.2.2.2.2.2.2.2.2.2.2.2.2.2.1 t_135.2.2.2.2.2.2.2.2.2.2.2.2.2.2.2.2.2.2.2.2.2.2.2.2.2.2.2.2.1 t_135.2.2.2.2.2.2.2.2.2.2.2.2.2.2.2.2.2.2.2.2.2.2.2.2.2.2.2.2.2.1 t_135.2.2.2.2.2.2.2.2.2.2.2.2.2.2.2.2.2.2.2.2.2.2.2.2.2.2.2.2.2.2.1 t_135.2.2.2.2.2.2.2.2.2.2.2.2.2.2.2.2.2.2.2.2.2.2.2.2.2.2.2.2.2.2.2) fun t_173 =>
  Option.bind (hocketref11_Members.f K (bandn .i64 t_44.1.Members x_158)) fun t_181 =>
  Option.bind (hocketref1_SameInts.f K t_173 t_181) fun t_189 =>
  hocketlaw18_GathReady.J7 K again_114 x_158 x_96 t_135 (!t_189))
  else (
  hocketlaw18_GathReady.J7 K again_114 x_158 x_96 t_135 true)
def hocketlaw18_GathReady.J5 (K : Nat) (x_97 : gath_Gather) (t_124 : Int) (t_44 : api_Msg × Bool × Int × Int × Int × (List api_Msg) × Int × Int × Int × Int × Int × Int × Int × Int × Bool × Int × Int × Int × Int × (List UInt8) × Int × Int × (List Int) × (List Int) × Int × Int × Int × Int × Int × (List UInt8) × (List UInt8) × (List UInt8) × Bool) (again_114 : Int × Int × gath_Gather → Option (Unit)) (x_96 : Int) (x_95 : Int) (x_131 : Bool) : Option (Unit) :=
  Option.bind (gath_Gather_Ready.f K x_97.n x_97.id x_97.v x_97.l x_97.come x_97.ready x_97.commit.Kind x_97.commit.From x_97.commit.To x_97.commit.View x_97.commit.Inst x_97.commit.Len x_97.commit.Has x_97.commit.Members x_97.commit.Source x_97.commit.At x_97.commit.Total x_97.commit.Data x_97.commit.Hop x_97.commit.Seq x_97.commit.Have x_97.commit.Need x_97.commit.Index x_97.commit.Entry.Sess x_97.commit.Entry.Seq x_97.commit.Entry.Cmd.Kind x_97.commit.Entry.Cmd.Who x_97.commit.Entry.Cmd.Key x_97.commit.Entry.Cmd.Val x_97.commit.Entry.Cmd.Old x_97.is (w64 ((band .i64 t_124 15) - 4))) fun t_135 =>
  if t_135.1 = x_131 then (
  if x_131 = true then (
  hocketlaw18_GathReady.J6 K t_135 t_44 again_114 x_96 (bor .i64 x_95 (shl .i64 1 (wu64 (w64 ((band .i64 t_124 15) - 4))))))
  else (
  hocketlaw18_GathReady.J6 K t_135 t_44 again_114 x_96 x_95))
  else (
  none)
def hocketlaw18_GathReady.J4 (K : Nat) (x1 : List Int) (x_96 : Int) (x0 : Int) (x_97 : gath_Gather) (t_44 : api_Msg × Bool × Int × Int × Int × (List api_Msg) × Int × Int × Int × Int × Int × Int × Int × Int × Bool × Int × Int × Int × Int × (List UInt8) × Int × Int × (List Int) × (List Int) × Int × Int × Int × Int × Int × (List UInt8) × (List UInt8) × (List UInt8) × Bool) (again_114 : Int × Int × gath_Gather → Option (Unit)) (x_95 : Int) (ex_114 : Unit → Option (Unit)) (x_119 : Bool) : Option (Unit) :=
  if x_119 = true then (
  Option.bind (ix x1 x_96) fun t_124 =>
  if (w64 ((band .i64 t_124 15) - 4)) ≥ 0 then (
  if (w64 ((band .i64 t_124 15) - 4)) < (w64 ((Int.tmod (band .i64 x0 255) 7) + 1)) then (
  hocketlaw18_GathReady.J5 K x_97 t_124 t_44 again_114 x_96 x_95 ((band .i64 (shr .i64 x_95 (wu64 (mx (w64 ((band .i64 t_124 15) - 4)) 0))) 1) == 0))
  else (
  hocketlaw18_GathReady.J5 K x_97 t_124 t_44 again_114 x_96 x_95 false))
  else (
  hocketlaw18_GathReady.J5 K x_97 t_124 t_44 again_114 x_96 x_95 false))
  else (
  ex_114 ())
def hocketlaw18_GathReady.B1 (K : Nat) (x1 : List Int) (x0 : Int) (t_44 : api_Msg × Bool × Int × Int × Int × (List api_Msg) × Int × Int × Int × Int × Int × Int × Int × Int × Bool × Int × Int × Int × Int × (List UInt8) × Int × Int × (List Int) × (List Int) × Int × Int × Int × Int × Int × (List UInt8) × (List UInt8) × (List UInt8) × Bool) (ex_114 : Unit → Option (Unit)) (again_114 : Int × Int × gath_Gather → Option (Unit)) (x_95 : Int) (x_96 : Int) (x_97 : gath_Gather) : Option (Unit) :=
  if x_96 < (x1.length : Int) then (
  hocketlaw18_GathReady.J4 K x1 x_96 x0 x_97 t_44 again_114 x_95 ex_114 (decide (x_96 < 30)))
  else (
  hocketlaw18_GathReady.J4 K x1 x_96 x0 x_97 t_44 again_114 x_95 ex_114 false)
def hocketlaw18_GathReady.L1 (K : Nat) (x1 : List Int) (x0 : Int) (t_44 : api_Msg × Bool × Int × Int × Int × (List api_Msg) × Int × Int × Int × Int × Int × Int × Int × Int × Bool × Int × Int × Int × Int × (List UInt8) × Int × Int × (List Int) × (List Int) × Int × Int × Int × Int × Int × (List UInt8) × (List UInt8) × (List UInt8) × Bool) (ex_114 : Unit → Option (Unit)) : Nat → Int × Int × gath_Gather → Option (Unit) :=
  iter fun again v => hocketlaw18_GathReady.B1 K x1 x0 t_44 ex_114 again v.1 v.2.1 v.2.2
def hocketlaw18_GathReady.J2 (K : Nat) (x1 : List Int) (x0 : Int) (t_44 : api_Msg × Bool × Int × Int × Int × (List api_Msg) × Int × Int × Int × Int × Int × Int × Int × Int × Bool × Int × Int × Int × Int × (List UInt8) × Int × Int × (List Int) × (List Int) × Int × Int × Int × Int × Int × (List UInt8) × (List UInt8) × (List UInt8) × Bool) (x_82 : Bool) : Option (Unit) :=
  if x_82 = true then (
  none)
  else (
  hocketlaw18_GathReady.L1 K x1 x0 t_44 (fun v => hocketlaw18_GathReady.J3 K) K (0, 0, (⟨t_44.2.2.1, t_44.2.2.2.1, t_44.2.2.2.2.1, t_44.2.2.2.2.2.1, t_44.2.2.2.2.2.2.1, t_44.2.2.2.2.2.2.2.1, (⟨t_44.2.2.2.2.2.2.2.2.1, t_44.2.2.2.2.2.2.2.2.2.1, t_44.2.2.2.2.2.2.2.2.2.2.1, t_44.2.2.2.2.2.2.2.2.2.2.2.1, t_44.2.2.2.2.2.2.2.2.2.2.2.2.1, t_44.2.2.2.2.2.2.2.2.2.2.2.2.2.1, t_44.2.2.2.2.2.2.2.2.2.2.2.2.2.2.1, t_44.2.2.2.2.2.2.2.2.2.2.2.2.2.2.2.1, t_44.2.2.2.2.2.2.2.2.2.2.2.2.2.2.2.2.1, t_44.2.2.2.2.2.2.2.2.2.2.2.2.2.2.2.2.2.1, t_44.2.2.2.2.2.2.2.2.2.2.2.2.2.2.2.2.2.2.1, t_44.2.2.2.2.2.2.2.2.2.2.2.2.2.2.2.2.2.2.2.1, t_44.2.2.2.2.2.2.2.2.2.2.2.2.2.2.2.2.2.2.2.2.1, t_44.2.2.2.2.2.2.2.2.2.2.2.2.2.2.2.2.2.2.2.2.2.1, t_44.2.2.2.2.2.2.2.2.2.2.2.2.2.2.2.2.2.2.2.2.2.2.1, t_44.2.2.2.2.2.2.2.2.2.2.2.2.2.2.2.2.2.2.2.2.2.2.2.1, t_44.2.2.2.2.2.2.2.2.2.2.2.2.2.2.2.2.2.2.2.2.2.2.2.2.1, (⟨t_44.2.2.2.2.2.2.2.2.2.2.2.2.2.2.2.2.2.2.2.2.2.2.2.2.2.1, t_44.2.2.2.2.2.2.2.2.2.2.2.2.2.2.2.2.2.2.2.2.2.2.2.2.2.2.1, (⟨t_44.2.2.2.2.2.2.2.2.2.2.2.2.2.2.2.2.2.2.2.2.2.2.2.2.2.2.2.1, t_44.2.2.2.2.2.2.2.2.2.2.2.2.2.2.2.2.2.2.2.2.2.2.2.2.2.2.2.2.1, t_44.2.2.2.2.2.2.2.2.2.2.2.2.2.2.2.2.2.2.2.2.2.2.2.2.2.2.2.2.2.1, t_44.2.2.2.2.2.2.2.2.2.2.2.2.2.2.2.2.2.2.2.2.2.2.2.2.2.2.2.2.2.2.1, t_44.2.2.2.2.2.2.2.2.2.2.2.2.2.2.2.2.2.2.2.2.2.2.2.2.2.2.2.2.2.2.2.1⟩ : api_Cmd)⟩ : api_Entry)⟩ : api_Msg), t_44.2.2.2.2.2.2.2.2.2.2.2.2.2.2.2.2.2.2.2.2.2.2.2.2.2.2.2.2.2.2.2.2⟩ : gath_Gather)))
def hocketlaw18_GathReady.J1 (K : Nat) (x0 : Int) (x1 : List Int) (x_25 : gath_Gather) : Option (Unit) :=
  Option.bind (gath_Gather_Commit.f K x_25.n x_25.id x_25.v x_25.l x_25.come x_25.ready x_25.commit.Kind x_25.commit.From x_25.commit.To x_25.commit.View x_25.commit.Inst x_25.commit.Len x_25.commit.Has x_25.commit.Members x_25.commit.Source x_25.commit.At x_25.commit.Total x_25.commit.Data x_25.commit.Hop x_25.commit.Seq x_25.commit.Have x_25.commit.Need x_25.commit.Index x_25.commit.Entry.Sess x_25.commit.Entry.Seq x_25.commit.Entry.Cmd.Kind x_25.commit.Entry.Cmd.Who x_25.commit.Entry.Cmd.Key x_25.commit.Entry.Cmd.Val x_25.commit.Entry.Cmd.Old x_25.is) fun t_44 =>
  if t_44.2.1 = true then (
  if t_44.1.Members = (w64 ((shl .i64 1 (wu64 (w64 ((Int.tmod (band .i64 x0 255) 7) + 1)))) - 1)) then (
  hocketlaw18_GathReady.J2 K x1 x0 t_44 (t_44.1.Source != 0))
  else (
  hocketlaw18_GathReady.J2 K x1 x0 t_44 true))
  else (
  hocketlaw18_GathReady.J2 K x1 x0 t_44 true)
def hocketlaw18_GathReady.J8 (K : Nat) (again_218 : Int × gath_Gather → Option (Unit)) (x_200 : Int) (x_225 : Bool) (x_226 : gath_Gather) : Option (Unit) :=
  if x_225 = true then (
  none)
  else (
  again_218 (w64 (x_200 + 1), x_226))
def hocketlaw18_GathReady.B2 (K : Nat) (x0 : Int) (ex_218 : gath_Gather → Option (Unit)) (again_218 : Int × gath_Gather → Option (Unit)) (x_200 : Int) (x_201 : gath_Gather) : Option (Unit) :=
  if x_200 < (w64 ((Int.tmod (band .i64 x0 255) 7) + 1)) then (
  Option.bind (gath_Gather_Ready.f K x_201.n x_201.id x_201.v x_201.l x_201.come x_201.ready x_201.commit.Kind x_201.commit.From x_201.commit.To x_201.commit.View x_201.commit.Inst x_201.commit.Len x_201.commit.Has x_201.commit.Members x_201.commit.Source x_201.commit.At x_201.commit.Total x_201.commit.Data x_201.commit.Hop x_201.commit.Seq x_201.commit.Have x_201.commit.Need x_201.commit.Index x_201.commit.Entry.Sess x_201.commit.Entry.Seq x_201.commit.Entry.Cmd.Kind x_201.commit.Entry.Cmd.Who x_201.commit.Entry.Cmd.Key x_201.commit.Entry.Cmd.Val x_201.commit.Entry.Cmd.Old x_201.is x_200) fun t_246 =>
  if t_246.1 = true then (
  hocketlaw18_GathReady.J8 K again_218 x_200 true (⟨t_246.2.1, t_246.2.2.1, t_246.2.2.2.1, t_246.2.2.2.2.1, t_246.2.2.2.2.2.1, t_246.2.2.2.2.2.2.1, (⟨t_246.2.2.2.2.2.2.2.1, t_246.2.2.2.2.2.2.2.2.1, t_246.2.2.2.2.2.2.2.2.2.1, t_246.2.2.2.2.2.2.2.2.2.2.1, t_246.2.2.2.2.2.2.2.2.2.2.2.1, t_246.2.2.2.2.2.2.2.2.2.2.2.2.1, t_246.2.2.2.2.2.2.2.2.2.2.2.2.2.1, t_246.2.2.2.2.2.2.2.2.2.2.2.2.2.2.1, t_246.2.2.2.2.2.2.2.2.2.2.2.2.2.2.2.1, t_246.2.2.2.2.2.2.2.2.2.2.2.2.2.2.2.2.1, t_246.2.2.2.2.2.2.2.2.2.2.2.2.2.2.2.2.2.1, t_246.2.2.2.2.2.2.2.2.2.2.2.2.2.2.2.2.2.2.1, t_246.2.2.2.2.2.2.2.2.2.2.2.2.2.2.2.2.2.2.2.1, t_246.2.2.2.2.2.2.2.2.2.2.2.2.2.2.2.2.2.2.2.2.1, t_246.2.2.2.2.2.2.2.2.2.2.2.2.2.2.2.2.2.2.2.2.2.1, t_246.2.2.2.2.2.2.2.2.2.2.2.2.2.2.2.2.2.2.2.2.2.2.1, t_246.2.2.2.2.2.2.2.2.2.2.2.2.2.2.2.2.2.2.2.2.2.2.2.1, (⟨t_246.2.2.2.2.2.2.2.2.2.2.2.2.2.2.2.2.2.2.2.2.2.2.2.2.1, t_246.2.2.2.2.2.2.2.2.2.2.2.2.2.2.2.2.2.2.2.2.2.2.2.2.2.1, (⟨t_246.2.2.2.2.2.2.2.2.2.2.2.2.2.2.2.2.2.2.2.2.2.2.2.2.2.2.1, t_246.2.2.2.2.2.2.2.2.2.2.2.2.2.2.2.2.2.2.2.2.2.2.2.2.2.2.2.1, t_246.2.2.2.2.2.2.2.2.2.2.2.2.2.2.2.2.2.2.2.2.2.2.2.2.2.2.2.2.1, t_246.2.2.2.2.2.2.2.2.2.2.2.2.2.2.2.2.2.2.2.2.2.2.2.2.2.2.2.2.2.1, t_246.2.2.2.2.2.2.2.2.2.2.2.2.2.2.2.2.2.2.2.2.2.2.2.2.2.2.2.2.2.2.1⟩ : api_Cmd)⟩ : api_Entry)⟩ : api_Msg), t_246.2.2.2.2.2.2.2.2.2.2.2.2.2.2.2.2.2.2.2.2.2.2.2.2.2.2.2.2.2.2.2⟩ : gath_Gather))
  else (
  Option.bind (gath_Gather_Take.f t_246.2.1 t_246.2.2.1 t_246.2.2.2.1 t_246.2.2.2.2.1 t_246.2.2.2.2.2.1 t_246.2.2.2.2.2.2.1 t_246.2.2.2.2.2.2.2.1 t_246.2.2.2.2.2.2.2.2.1 t_246.2.2.2.2.2.2.2.2.2.1 t_246.2.2.2.2.2.2.2.2.2.2.1 t_246.2.2.2.2.2.2.2.2.2.2.2.1 t_246.2.2.2.2.2.2.2.2.2.2.2.2.1 t_246.2.2.2.2.2.2.2.2.2.2.2.2.2.1 t_246.2.2.2.2.2.2.2.2.2.2.2.2.2.2.1 t_246.2.2.2.2.2.2.2.2.2.2.2.2.2.2.2.1 t_246.2.2.2.2.2.2.2.2.2.2.2.2.2.2.2.2.1 t_246.2.2.2.2.2.2.2.2.2.2.2.2.2.2.2.2.2.1 t_246.2.2.2.2.2.2.2.2.2.2.2.2.2.2.2.2.2.2.1 t_246.2.2.2.2.2.2.2.2.2.2.2.2.2.2.2.2.2.2.2.1 t_246.2.2.2.2.2.2.2.2.2.2.2.2.2.2.2.2.2.2.2.2.1 t_246.2.2.2.2.2.2.2.2.2.2.2.2.2.2.2.2.2.2.2.2.2.1 t_246.2.2.2.2.2.2.2.2.2.2.2.2.2.2.2.2.2.2.2.2.2.2.1 t_246.2.2.2.2.2.2.2.2.2.2.2.2.2.2.2.2.2.2.2.2.2.2.2.1 t_246.2.2.2.2.2.2.2.2.2.2.2.2.2.2.2.2.2.2.2.2.2.2.2.2.1 t_246.2.2.2.2.2.2.2.2.2.2.2.2.2.2.2.2.2.2.2.2.2.2.2.2.2.1 t_246.2.2.2.2.2.2.2.2.2.2.2.2.2.2.2.2.2.2.2.2.2.2.2.2.2.2.1 t_246.2.2.2.2.2.2.2.2.2.2.2.2.2.2.2.2.2.2.2.2.2.2.2.2.2.2.2.1 t_246.2.2.2.2.2.2.2.2.2.2.2.2.2.2.2.2.2.2.2.2.2.2.2.2.2.2.2.2.1 t_246.2.2.2.2.2.2.2.2.2.2.2.2.2.2.2.2.2.2.2.2.2.2.2.2.2.2.2.2.2.1 t_246.2.2.2.2.2.2.2.2.2.2.2.2.2.2.2.2.2.2.2.2.2.2.2.2.2.2.2.2.2.2.1 t_246.2.2.2.2.2.2.2.2.2.2.2.2.2.2.2.2.2.2.2.2.2.2.2.2.2.2.2.2.2.2.2 (⟨2, x_200, 0, 8, 0, 0, false, 0, 0, 0, 0, ([] : List UInt8), 0, 0, ([] : List Int), ([] : List Int), 0, (⟨0, 0, (⟨0, 0, ([] : List UInt8), ([] : List UInt8), ([] : List UInt8)⟩ : api_Cmd)⟩ : api_Entry)⟩ : api_Msg)) fun t_267 =>
  hocketlaw18_GathReady.J8 K again_218 x_200 (!t_267.1) (⟨t_267.2.1, t_267.2.2.1, t_267.2.2.2.1, t_267.2.2.2.2.1, t_267.2.2.2.2.2.1, t_267.2.2.2.2.2.2.1, (⟨t_267.2.2.2.2.2.2.2.1, t_267.2.2.2.2.2.2.2.2.1, t_267.2.2.2.2.2.2.2.2.2.1, t_267.2.2.2.2.2.2.2.2.2.2.1, t_267.2.2.2.2.2.2.2.2.2.2.2.1, t_267.2.2.2.2.2.2.2.2.2.2.2.2.1, t_267.2.2.2.2.2.2.2.2.2.2.2.2.2.1, t_267.2.2.2.2.2.2.2.2.2.2.2.2.2.2.1, t_267.2.2.2.2.2.2.2.2.2.2.2.2.2.2.2.1, t_267.2.2.2.2.2.2.2.2.2.2.2.2.2.2.2.2.1, t_267.2.2.2.2.2.2.2.2.2.2.2.2.2.2.2.2.2.1, t_267.2.2.2.2.2.2.2.2.2.2.2.2.2.2.2.2.2.2.1, t_267.2.2.2.2.2.2.2.2.2.2.2.2.2.2.2.2.2.2.2.1, t_267.2.2.2.2.2.2.2.2.2.2.2.2.2.2.2.2.2.2.2.2.1, t_267.2.2.2.2.2.2.2.2.2.2.2.2.2.2.2.2.2.2.2.2.2.1, t_267.2.2.2.2.2.2.2.2.2.2.2.2.2.2.2.2.2.2.2.2.2.2.1, t_267.2.2.2.2.2.2.2.2.2.2.2.2.2.2.2.2.2.2.2.2.2.2.2.1, (⟨t_267.2.2.2.2.2.2.2.2.2.2.2.2.2.2.2.2.2.2.2.2.2.2.2.2.1, t_267.2.2.2.2.2.2.2.2.2.2.2.2.2.2.2.2.2.2.2.2.2.2.2.2.2.1, (⟨t_267.2.2.2.2.2.2.2.2.2.2.2.2.2.2.2.2.2.2.2.2.2.2.2.2.2.2.1, t_267.2.2.2.2.2.2.2.2.2.2.2.2.2.2.2.2.2.2.2.2.2.2.2.2.2.2.2.1, t_267.2.2.2.2.2.2.2.2.2.2.2.2.2.2.2.2.2.2.2.2.2.2.2.2.2.2.2.2.1, t_267.2.2.2.2.2.2.2.2.2.2.2.2.2.2.2.2.2.2.2.2.2.2.2.2.2.2.2.2.2.1, t_267.2.2.2.2.2.2.2.2.2.2.2.2.2.2.2.2.2.2.2.2.2.2.2.2.2.2.2.2.2.2.1⟩ : api_Cmd)⟩ : api_Entry)⟩ : api_Msg), t_267.2.2.2.2.2.2.2.2.2.2.2.2.2.2.2.2.2.2.2.2.2.2.2.2.2.2.2.2.2.2.2⟩ : gath_Gather)))
  else (
  ex_218 x_201)
def hocketlaw18_GathReady.L2 (K : Nat) (x0 : Int) (ex_218 : gath_Gather → Option (Unit)) : Nat → Int × gath_Gather → Option (Unit) :=
  iter fun again v => hocketlaw18_GathReady.B2 K x0 ex_218 again v.1 v.2
def hocketlaw18_GathReady.f (K : Nat) (x0 : Int) (x1 : List Int) : Option (Unit) :=
  Option.bind (gath_New.f (w64 ((Int.tmod (band .i64 x0 255) 7) + 1)) 0 8 (⟨2, 0, 0, 8, 0, 0, true, 0, 0, 0, 0, ([] : List UInt8), 0, 0, ([] : List Int), ([] : List Int), 0, (⟨0, 0, (⟨0, 0, ([] : List UInt8), ([] : List UInt8), ([] : List UInt8)⟩ : api_Cmd)⟩ : api_Entry)⟩ : api_Msg)) fun t_1 =>
  hocketlaw18_GathReady.L2 K x0 (fun v => hocketlaw18_GathReady.J1 K x0 x1 v) K (1, (⟨t_1.1, t_1.2.1, t_1.2.2.1, t_1.2.2.2.1, t_1.2.2.2.2.1, t_1.2.2.2.2.2.1, (⟨t_1.2.2.2.2.2.2.1, t_1.2.2.2.2.2.2.2.1, t_1.2.2.2.2.2.2.2.2.1, t_1.2.2.2.2.2.2.2.2.2.1, t_1.2.2.2.2.2.2.2.2.2.2.1, t_1.2.2.2.2.2.2.2.2.2.2.2.1, t_1.2.2.2.2.2.2.2.2.2.2.2.2.1, t_1.2.2.2.2.2.2.2.2.2.2.2.2.2.1, t_1.2.2.2.2.2.2.2.2.2.2.2.2.2.2.1, t_1.2.2.2.2.2.2.2.2.2.2.2.2.2.2.2.1, t_1.2.2.2.2.2.2.2.2.2.2.2.2.2.2.2.2.1, t_1.2.2.2.2.2.2.2.2.2.2.2.2.2.2.2.2.2.1, t_1.2.2.2.2.2.2.2.2.2.2.2.2.2.2.2.2.2.2.1, t_1.2.2.2.2.2.2.2.2.2.2.2.2.2.2.2.2.2.2.2.1, t_1.2.2.2.2.2.2.2.2.2.2.2.2.2.2.2.2.2.2.2.2.1, t_1.2.2.2.2.2.2.2.2.2.2.2.2.2.2.2.2.2.2.2.2.2.1, t_1.2.2.2.2.2.2.2.2.2.2.2.2.2.2.2.2.2.2.2.2.2.2.1, (⟨t_1.2.2.2.2.2.2.2.2.2.2.2.2.2.2.2.2.2.2.2.2.2.2.2.1, t_1.2.2.2.2.2.2.2.2.2.2.2.2.2.2.2.2.2.2.2.2.2.2.2.2.1, (⟨t_1.2.2.2.2.2.2.2.2.2.2.2.2.2.2.2.2.2.2.2.2.2.2.2.2.2.1, t_1.2.2.2.2.2.2.2.2.2.2.2.2.2.2.2.2.2.2.2.2.2.2.2.2.2.2.1, t_1.2.2.2.2.2.2.2.2.2.2.2.2.2.2.2.2.2.2.2.2.2.2.2.2.2.2.2.1, t_1.2.2.2.2.2.2.2.2.2.2.2.2.2.2.2.2.2.2.2.2.2.2.2.2.2.2.2.2.1, t_1.2.2.2.2.2.2.2.2.2.2.2.2.2.2.2.2.2.2.2.2.2.2.2.2.2.2.2.2.2.1⟩ : api_Cmd)⟩ : api_Entry)⟩ : api_Msg), t_1.2.2.2.2.2.2.2.2.2.2.2.2.2.2.2.2.2.2.2.2.2.2.2.2.2.2.2.2.2.2⟩ : gath_Gather))

def hocketlaw18_GathBlocks.J1 (K : Nat) (x1 : Int) (x_25 : gath_Gather) : Option (Unit) :=
  Option.bind (gath_Gather_Take.f x_25.n x_25.id x_25.v x_25.l x_25.come x_25.ready x_25.commit.Kind x_25.commit.From x_25.commit.To x_25.commit.View x_25.commit.Inst x_25.commit.Len x_25.commit.Has x_25.commit.Members x_25.commit.Source x_25.commit.At x_25.commit.Total x_25.commit.Data x_25.commit.Hop x_25.commit.Seq x_25.commit.Have x_25.commit.Need x_25.commit.Index x_25.commit.Entry.Sess x_25.commit.Entry.Seq x_25.commit.Entry.Cmd.Kind x_25.commit.Entry.Cmd.Who x_25.commit.Entry.Cmd.Key x_25.commit.Entry.Cmd.Val x_25.commit.Entry.Cmd.Old x_25.is (⟨2, w64 ((Int.tmod (band .i64 x1 255) 4) + 1), 0, 800, 16, 2, true, 0, 0, 0, 0, ([] : List UInt8), 0, 0, ([] : List Int), ([] : List Int), 0, (⟨0, 0, (⟨0, 0, ([] : List UInt8), ([] : List UInt8), ([] : List UInt8)⟩ : api_Cmd)⟩ : api_Entry)⟩ : api_Msg)) fun t_45 =>
  if t_45.1 = true then (
  Option.bind (gath_Gather_Commit.f K t_45.2.1 t_45.2.2.1 t_45.2.2.2.1 t_45.2.2.2.2.1 t_45.2.2.2.2.2.1 t_45.2.2.2.2.2.2.1 t_45.2.2.2.2.2.2.2.1 t_45.2.2.2.2.2.2.2.2.1 t_45.2.2.2.2.2.2.2.2.2.1 t_45.2.2.2.2.2.2.2.2.2.2.1 t_45.2.2.2.2.2.2.2.2.2.2.2.1 t_45.2.2.2.2.2.2.2.2.2.2.2.2.1 t_45.2.2.2.2.2.2.2.2.2.2.2.2.2.1 t_45.2.2.2.2.2.2.2.2.2.2.2.2.2.2.1 t_45.2.2.2.2.2.2.2.2.2.2.2.2.2.2.2.1 t_45.2.2.2.2.2.2.2.2.2.2.2.2.2.2.2.2.1 t_45.2.2.2.2.2.2.2.2.2.2.2.2.2.2.2.2.2.1 t_45.2.2.2.2.2.2.2.2.2.2.2.2.2.2.2.2.2.2.1 t_45.2.2.2.2.2.2.2.2.2.2.2.2.2.2.2.2.2.2.2.1 t_45.2.2.2.2.2.2.2.2.2.2.2.2.2.2.2.2.2.2.2.2.1 t_45.2.2.2.2.2.2.2.2.2.2.2.2.2.2.2.2.2.2.2.2.2.1 t_45.2.2.2.2.2.2.2.2.2.2.2.2.2.2.2.2.2.2.2.2.2.2.1 t_45.2.2.2.2.2.2.2.2.2.2.2.2.2.2.2.2.2.2.2.2.2.2.2.1 t_45.2.2.2.2.2.2.2.2.2.2.2.2.2.2.2.2.2.2.2.2.2.2.2.2.1 t_45.2.2.2.2.2.2.2.2.2.2.2.2.2.2.2.2.2.2.2.2.2.2.2.2.2.1 t_45.2.2.2.2.2.2.2.2.2.2.2.2.2.2.2.2.2.2.2.2.2.2.2.2.2.2.1 t_45.2.2.2.2.2.2.2.2.2.2.2.2.2.2.2.2.2.2.2.2.2.2.2.2.2.2.2.1 t_45.2.2.2.2.2.2.2.2.2.2.2.2.2.2.2.2.2.2.2.2.2.2.2.2.2.2.2.2.1 t_45.2.2.2.2.2.2.2.2.2.2.2.2.2.2.2.2.2.2.2.2.2.2.2.2.2.2.2.2.2.1 t_45.2.2.2.2.2.2.2.2.2.2.2.2.2.2.2.2.2.2.2.2.2.2.2.2.2.2.2.2.2.2.1 t_45.2.2.2.2.2.2.2.2.2.2.2.2.2.2.2.2.2.2.2.2.2.2.2.2.2.2.2.2.2.2.2) fun t_66 =>
  if t_66.2.1 = true then (
  if t_66.1.Members = 31 then (
  if t_66.1.Source = (w64 ((Int.tmod (band .i64 x1 255) 4) + 1)) then (
  if t_66.1.Len = 2 then (
  if t_66.1.View = 800 then (
  Option.bind (hocketlaw18_awake.f K) fun t_107 =>
  some ())
  else (
  none))
  else (
  none))
  else (
  none))
  else (
  none))
  else (
  none))
  else (
  none)
def hocketlaw18_GathBlocks.J2 (K : Nat) (x_113 : gath_Gather) (x_112 : Int) (again_130 : Int × gath_Gather → Option (Unit)) (x_139 : Int) : Option (Unit) :=
  Option.bind (gath_Gather_Take.f x_113.n x_113.id x_113.v x_113.l x_113.come x_113.ready x_113.commit.Kind x_113.commit.From x_113.commit.To x_113.commit.View x_113.commit.Inst x_113.commit.Len x_113.commit.Has x_113.commit.Members x_113.commit.Source x_113.commit.At x_113.commit.Total x_113.commit.Data x_113.commit.Hop x_113.commit.Seq x_113.commit.Have x_113.commit.Need x_113.commit.Index x_113.commit.Entry.Sess x_113.commit.Entry.Seq x_113.commit.Entry.Cmd.Kind x_113.commit.Entry.Cmd.Who x_113.commit.Entry.Cmd.Key x_113.commit.Entry.Cmd.Val x_113.commit.Entry.Cmd.Old x_113.is (⟨2, x_112, 0, 800, 16, band .i64 x_139 15, false, 0, 0, 0, 0, ([] : List UInt8), 0, 0, ([] : List Int), ([] : List Int), 0, (⟨0, 0, (⟨0, 0, ([] : List UInt8), ([] : List UInt8), ([] : List UInt8)⟩ : api_Cmd)⟩ : api_Entry)⟩ : api_Msg)) fun t_143 =>
  if t_143.1 = true then (
  Option.bind (gath_Gather_Commit.f K t_143.2.1 t_143.2.2.1 t_143.2.2.2.1 t_143.2.2.2.2.1 t_143.2.2.2.2.2.1 t_143.2.2.2.2.2.2.1 t_143.2.2.2.2.2.2.2.1 t_143.2.2.2.2.2.2.2.2.1 t_143.2.2.2.2.2.2.2.2.2.1 t_143.2.2.2.2.2.2.2.2.2.2.1 t_143.2.2.2.2.2.2.2.2.2.2.2.1 t_143.2.2.2.2.2.2.2.2.2.2.2.2.1 t_143.2.2.2.2.2.2.2.2.2.2.2.2.2.1 t_143.2.2.2.2.2.2.2.2.2.2.2.2.2.2.1 t_143.2.2.2.2.2.2.2.2.2.2.2.2.2.2.2.1 t_143.2.2.2.2.2.2.2.2.2.2.2.2.2.2.2.2.1 t_143.2.2.2.2.2.2.2.2.2.2.2.2.2.2.2.2.2.1 t_143.2.2.2.2.2.2.2.2.2.2.2.2.2.2.2.2.2.2.1 t_143.2.2.2.2.2.2.2.2.2.2.2.2.2.2.2.2.2.2.2.1 t_143.2.2.2.2.2.2.2.2.2.2.2.2.2.2.2.2.2.2.2.2.1 t_143.2.2.2.2.2.2.2.2.2.2.2.2.2.2.2.2.2.2.2.2.2.1 t_143.2.2.2.2.2.2.2.2.2.2.2.2.2.2.2.2.2.2.2.2.2.2.1 t_143.2.2.2.2.2.2.2.2.2.2.2.2.2.2.2.2.2.2.2.2.2.2.2.1 t_143.2.2.2.2.2.2.2.2.2.2.2.2.2.2.2.2.2.2.2.2.2.2.2.2.1 t_143.2.2.2.2.2.2.2.2.2.2.2.2.2.2.2.2.2.2.2.2.2.2.2.2.2.1 t_143.2.2.2.2.2.2.2.2.2.2.2.2.2.2.2.2.2.2.2.2.2.2.2.2.2.2.1 t_143.2.2.2.2.2.2.2.2.2.2.2.2.2.2.2.2.2.2.2.2.2.2.2.2.2.2.2.1 t_143.2.2.2.2.2.2.2.2.2.2.2.2.2.2.2.2.2.2.2.2.2.2.2.2.2.2.2.2.1 t_143.2.2.2.2.2.2.2.2.2.2.2.2.2.2.2.2.2.2.2.2.2.2.2.2.2.2.2.2.2.1 t_143.2.2.2.2.2.2.2.2.2.2.2.2.2.2.2.2.2.2.2.2.2.2.2.2.2.2.2.2.2.2.1 t_143.2.2.2.2.2.2.2.2.2.2.2.2.2.2.2.2.2.2.2.2.2.2.2.2.2.2.2.2.2.2.2) fun t_164 =>
  if t_164.2.1 = true then (
  none)
  else (
  again_130 (w64 (x_112 + 1), (⟨t_164.2.2.1, t_164.2.2.2.1, t_164.2.2.2.2.1, t_164.2.2.2.2.2.1, t_164.2.2.2.2.2.2.1, t_164.2.2.2.2.2.2.2.1, (⟨t_164.2.2.2.2.2.2.2.2.1, t_164.2.2.2.2.2.2.2.2.2.1, t_164.2.2.2.2.2.2.2.2.2.2.1, t_164.2.2.2.2.2.2.2.2.2.2.2.1, t_164.2.2.2.2.2.2.2.2.2.2.2.2.1, t_164.2.2.2.2.2.2.2.2.2.2.2.2.2.1, t_164.2.2.2.2.2.2.2.2.2.2.2.2.2.2.1, t_164.2.2.2.2.2.2.2.2.2.2.2.2.2.2.2.1, t_164.2.2.2.2.2.2.2.2.2.2.2.2.2.2.2.2.1, t_164.2.2.2.2.2.2.2.2.2.2.2.2.2.2.2.2.2.1, t_164.2.2.2.2.2.2.2.2.2.2.2.2.2.2.2.2.2.2.1, t_164.2.2.2.2.2.2.2.2.2.2.2.2.2.2.2.2.2.2.2.1, t_164.2.2.2.2.2.2.2.2.2.2.2.2.2.2.2.2.2.2.2.2.1, t_164.2.2.2.2.2.2.2.2.2.2.2.2.2.2.2.2.2.2.2.2.2.1, t_164.2.2.2.2.2.2.2.2.2.2.2.2.2.2.2.2.2.2.2.2.2.2.1, t_164.2.2.2.2.2.2.2.2.2.2.2.2.2.2.2.2.2.2.2.2.2.2.2.1, t_164.2.2.2.2.2.2.2.2.2.2.2.2.2.2.2.2.2.2.2.2.2.2.2.2.1, (⟨t_164.2.2.2.2.2.2.2.2.2.2.2.2.2.2.2.2.2.2.2.2.2.2.2.2.2.1, t_164.2.2.2.2.2.2.2.2.2.2.2.2.2.2.2.2.2.2.2.2.2.2.2.2.2.2.1, (⟨t_164.2.2.2.2.2.2.2.2.2.2.2.2.2.2.2.2.2.2.2.2.2.2.2.2.2.2.2.1, t_164.2.2.2.2.2.2.2.2.2.2.2.2.2.2.2.2.2.2.2.2.2.2.2.2.2.2.2.2.1, t_164.2.2.2.2.2.2.2.2.2.2.2.2.2.2.2.2.2.2.2.2.2.2.2.2.2.2.2.2.2.1, t_164.2.2.2.2.2.2.2.2.2.2.2.2.2.2.2.2.2.2.2.2.2.2.2.2.2.2.2.2.2.2.1, t_164.2.2.2.2.2.2.2.2.2.2.2.2.2.2.2.2.2.2.2.2.2.2.2.2.2.2.2.2.2.2.2.1⟩ : api_Cmd)⟩ : api_Entry)⟩ : api_Msg), t_164.2.2.2.2.2.2.2.2.2.2.2.2.2.2.2.2.2.2.2.2.2.2.2.2.2.2.2.2.2.2.2.2⟩ : gath_Gather))))
  else (
  none)
def hocketlaw18_GathBlocks.B1 (K : Nat) (x1 : Int) (x0 : List Int) (ex_130 : gath_Gather → Option (Unit)) (again_130 : Int × gath_Gather → Option (Unit)) (x_112 : Int) (x_113 : gath_Gather) : Option (Unit) :=
  if x_112 < 5 then (
  if x_112 = (w64 ((Int.tmod (band .i64 x1 255) 4) + 1)) then (
  again_130 (w64 (x_112 + 1), x_113))
  else (
  if x_112 < (x0.length : Int) then (
  Option.bind (ix x0 x_112) fun t_201 =>
  hocketlaw18_GathBlocks.J2 K x_113 x_112 again_130 t_201)
  else (
  hocketlaw18_GathBlocks.J2 K x_113 x_112 again_130 0)))
  else (
  ex_130 x_113)
def hocketlaw18_GathBlocks.L1 (K : Nat) (x1 : Int) (x0 : List Int) (ex_130 : gath_Gather → Option (Unit)) : Nat → Int × gath_Gather → Option (Unit) :=
  iter fun again v => hocketlaw18_GathBlocks.B1 K x1 x0 ex_130 again v.1 v.2
def hocketlaw18_GathBlocks.f (K : Nat) (x0 : List Int) (x1 : Int) : Option (Unit) :=
  Option.bind (gath_New.f 5 0 800 (⟨2, 0, 0, 800, 8, 3, true, 0, 0, 0, 0, ([] : List UInt8), 0, 0, ([] : List Int), ([] : List Int), 0, (⟨0, 0, (⟨0, 0, ([] : List UInt8), ([] : List UInt8), ([] : List UInt8)⟩ : api_Cmd)⟩ : api_Entry)⟩ : api_Msg)) fun t_1 =>
  hocketlaw18_GathBlocks.L1 K x1 x0 (fun v => hocketlaw18_GathBlocks.J1 K x1 v) K (1, (⟨t_1.1, t_1.2.1, t_1.2.2.1, t_1.2.2.2.1, t_1.2.2.2.2.1, t_1.2.2.2.2.2.1, (⟨t_1.2.2.2.2.2.2.1, t_1.2.2.2.2.2.2.2.1, t_1.2.2.2.2.2.2.2.2.1, t_1.2.2.2.2.2.2.2.2.2.1, t_1.2.2.2.2.2.2.2.2.2.2.1, t_1.2.2.2.2.2.2.2.2.2.2.2.1, t_1.2.2.2.2.2.2.2.2.2.2.2.2.1, t_1.2.2.2.2.2.2.2.2.2.2.2.2.2.1, t_1.2.2.2.2.2.2.2.2.2.2.2.2.2.2.1, t_1.2.2.2.2.2.2.2.2.2.2.2.2.2.2.2.1, t_1.2.2.2.2.2.2.2.2.2.2.2.2.2.2.2.2.1, t_1.2.2.2.2.2.2.2.2.2.2.2.2.2.2.2.2.2.1, t_1.2.2.2.2.2.2.2.2.2.2.2.2.2.2.2.2.2.2.1, t_1.2.2.2.2.2.2.2.2.2.2.2.2.2.2.2.2.2.2.2.1, t_1.2.2.2.2.2.2.2.2.2.2.2.2.2.2.2.2.2.2.2.2.1, t_1.2.2.2.2.2.2.2.2.2.2.2.2.2.2.2.2.2.2.2.2.2.1, t_1.2.2.2.2.2.2.2.2.2.2.2.2.2.2.2.2.2.2.2.2.2.2.1, (⟨t_1.2.2.2.2.2.2.2.2.2.2.2.2.2.2.2.2.2.2.2.2.2.2.2.1, t_1.2.2.2.2.2.2.2.2.2.2.2.2.2.2.2.2.2.2.2.2.2.2.2.2.1, (⟨t_1.2.2.2.2.2.2.2.2.2.2.2.2.2.2.2.2.2.2.2.2.2.2.2.2.2.1, t_1.2.2.2.2.2.2.2.2.2.2.2.2.2.2.2.2.2.2.2.2.2.2.2.2.2.2.1, t_1.2.2.2.2.2.2.2.2.2.2.2.2.2.2.2.2.2.2.2.2.2.2.2.2.2.2.2.1, t_1.2.2.2.2.2.2.2.2.2.2.2.2.2.2.2.2.2.2.2.2.2.2.2.2.2.2.2.2.1, t_1.2.2.2.2.2.2.2.2.2.2.2.2.2.2.2.2.2.2.2.2.2.2.2.2.2.2.2.2.2.1⟩ : api_Cmd)⟩ : api_Entry)⟩ : api_Msg), t_1.2.2.2.2.2.2.2.2.2.2.2.2.2.2.2.2.2.2.2.2.2.2.2.2.2.2.2.2.2.2⟩ : gath_Gather))

def hocketlaw18_GathPlays.J1 (K : Nat) : Option (Unit) :=
  Option.bind (hocketlaw18_awake.f K) fun t_58 =>
  some ()
def hocketlaw18_GathPlays.J4 (K : Nat) (again_98 : Int × gath_Gather × hocketref15_Gather → Option (Unit)) (x_63 : Int) (x_115 : gath_Gather) (x_132 : hocketref15_Gather) (x_153 : Bool) : Option (Unit) :=
  if x_153 = true then (
  none)
  else (
  again_98 (w64 (x_63 + 1), x_115, x_132))
def hocketlaw18_GathPlays.J3 (K : Nat) (again_98 : Int × gath_Gather × hocketref15_Gather → Option (Unit)) (x_63 : Int) (x_115 : gath_Gather) (x_132 : hocketref15_Gather) : Option (Unit) :=
  Option.bind (gath_Gather_Absent.f K x_115.n x_115.id x_115.v x_115.l x_115.come x_115.ready x_115.commit.Kind x_115.commit.From x_115.commit.To x_115.commit.View x_115.commit.Inst x_115.commit.Len x_115.commit.Has x_115.commit.Members x_115.commit.Source x_115.commit.At x_115.commit.Total x_115.commit.Data x_115.commit.Hop x_115.commit.Seq x_115.commit.Have x_115.commit.Need x_115.commit.Index x_115.commit.Entry.Sess x_115.commit.Entry.Seq x_115.commit.Entry.Cmd.Kind x_115.commit.Entry.Cmd.Who x_115.commit.Entry.Cmd.Key x_115.commit.Entry.Cmd.Val x_115.commit.Entry.Cmd.Old x_115.is) fun t_157 =>
  Option.bind (hocketref15_Gather_Absent.f K x_132.n x_132.id x_132.v x_132.l x_132.commit.Kind x_132.commit.From x_132.commit.To x_132.commit.View x_132.commit.Inst x_132.commit.Len x_132.commit.Has x_132.commit.Members x_132.commit.Source x_132.commit.At x_132.commit.Total x_132.commit.Data x_132.commit.Hop x_132.commit.Seq x_132.commit.Have x_132.commit.Need x_132.commit.Index x_132.commit.Entry.Sess x_132.commit.Entry.Seq x_132.commit.Entry.Cmd.Kind x_132.commit.Entry.Cmd.Who x_132.commit.Entry.Cmd.Key x_132.commit.Entry.Cmd.Val x_132.commit.Entry.Cmd.Old x_132.sure x_132.ready) fun t_165 =>
  Option.bind (hocketref1_SameInts.f K t_157 t_165) fun t_173 =>
  if t_173 = true then (
  Option.bind (gath_Gather_All.f K x_115.n x_115.id x_115.v x_115.l x_115.come x_115.ready x_115.commit.Kind x_115.commit.From x_115.commit.To x_115.commit.View x_115.commit.Inst x_115.commit.Len x_115.commit.Has x_115.commit.Members x_115.commit.Source x_115.commit.At x_115.commit.Total x_115.commit.Data x_115.commit.Hop x_115.commit.Seq x_115.commit.Have x_115.commit.Need x_115.commit.Index x_115.commit.Entry.Sess x_115.commit.Entry.Seq x_115.commit.Entry.Cmd.Kind x_115.commit.Entry.Cmd.Who x_115.commit.Entry.Cmd.Key x_115.commit.Entry.Cmd.Val x_115.commit.Entry.Cmd.Old x_115.is) fun t_178 =>
  Option.bind (hocketref15_Gather_Absent.f K x_132.n x_132.id x_132.v x_132.l x_132.commit.Kind x_132.commit.From x_132.commit.To x_132.commit.View x_132.commit.Inst x_132.commit.Len x_132.commit.Has x_132.commit.Members x_132.commit.Source x_132.commit.At x_132.commit.Total x_132.commit.Data x_132.commit.Hop x_132.commit.Seq x_132.commit.Have x_132.commit.Need x_132.commit.Index x_132.commit.Entry.Sess x_132.commit.Entry.Seq x_132.commit.Entry.Cmd.Kind x_132.commit.Entry.Cmd.Who x_132.commit.Entry.Cmd.Key x_132.commit.Entry.Cmd.Val x_132.commit.Entry.Cmd.Old x_132.sure x_132.ready) fun t_182 =>
  if t_178 = ((t_182.length : Int) == 0) then (
  Option.bind (gath_Gather_Unready.f K x_115.n x_115.id x_115.v x_115.l x_115.come x_115.ready x_115.commit.Kind x_115.commit.From x_115.commit.To x_115.commit.View x_115.commit.Inst x_115.commit.Len x_115.commit.Has x_115.commit.Members x_115.commit.Source x_115.commit.At x_115.commit.Total x_115.commit.Data x_115.commit.Hop x_115.commit.Seq x_115.commit.Have x_115.commit.Need x_115.commit.Index x_115.commit.Entry.Sess x_115.commit.Entry.Seq x_115.commit.Entry.Cmd.Kind x_115.commit.Entry.Cmd.Who x_115.commit.Entry.Cmd.Key x_115.commit.Entry.Cmd.Val x_115.commit.Entry.Cmd.Old x_115.is) fun t_191 =>
  Option.bind (hocketref15_Gather_Unready.f K x_132.n x_132.id x_132.v x_132.l x_132.commit.Kind x_132.commit.From x_132.commit.To x_132.commit.View x_132.commit.Inst x_132.commit.Len x_132.commit.Has x_132.commit.Members x_132.commit.Source x_132.commit.At x_132.commit.Total x_132.commit.Data x_132.commit.Hop x_132.commit.Seq x_132.commit.Have x_132.commit.Need x_132.commit.Index x_132.commit.Entry.Sess x_132.commit.Entry.Seq x_132.commit.Entry.Cmd.Kind x_132.commit.Entry.Cmd.Who x_132.commit.Entry.Cmd.Key x_132.commit.Entry.Cmd.Val x_132.commit.Entry.Cmd.Old x_132.sure x_132.ready) fun t_199 =>
  Option.bind (hocketref1_SameInts.f K t_191 t_199) fun t_207 =>
  if t_207 = true then (
  Option.bind (gath_Gather_Done.f K x_115.n x_115.id x_115.v x_115.l x_115.come x_115.ready x_115.commit.Kind x_115.commit.From x_115.commit.To x_115.commit.View x_115.commit.Inst x_115.commit.Len x_115.commit.Has x_115.commit.Members x_115.commit.Source x_115.commit.At x_115.commit.Total x_115.commit.Data x_115.commit.Hop x_115.commit.Seq x_115.commit.Have x_115.commit.Need x_115.commit.Index x_115.commit.Entry.Sess x_115.commit.Entry.Seq x_115.commit.Entry.Cmd.Kind x_115.commit.Entry.Cmd.Who x_115.commit.Entry.Cmd.Key x_115.commit.Entry.Cmd.Val x_115.commit.Entry.Cmd.Old x_115.is) fun t_212 =>
  Option.bind (hocketref15_Gather_Done.f x_132.n x_132.id x_132.v x_132.l x_132.commit.Kind x_132.commit.From x_132.commit.To x_132.commit.View x_132.commit.Inst x_132.commit.Len x_132.commit.Has x_132.commit.Members x_132.commit.Source x_132.commit.At x_132.commit.Total x_132.commit.Data x_132.commit.Hop x_132.commit.Seq x_132.commit.Have x_132.commit.Need x_132.commit.Index x_132.commit.Entry.Sess x_132.commit.Entry.Seq x_132.commit.Entry.Cmd.Kind x_132.commit.Entry.Cmd.Who x_132.commit.Entry.Cmd.Key x_132.commit.Entry.Cmd.Val x_132.commit.Entry.Cmd.Old x_132.sure x_132.ready) fun t_216 =>
  hocketlaw18_GathPlays.J4 K again_98 x_63 x_115 x_132 (!(t_212 == t_216)))
  else (
  hocketlaw18_GathPlays.J4 K again_98 x_63 x_115 x_132 true))
  else (
  hocketlaw18_GathPlays.J4 K again_98 x_63 x_115 x_132 true))
  else (
  hocketlaw18_GathPlays.J4 K again_98 x_63 x_115 x_132 true)
def hocketlaw18_GathPlays.J8 (K : Nat) (x_64 : gath_Gather) (x_81 : hocketref15_Gather) (again_98 : Int × gath_Gather × hocketref15_Gather → Option (Unit)) (x_63 : Int) (x_271 : api_Msg) : Option (Unit) :=
  Option.bind (gath_Gather_Take.f x_64.n x_64.id x_64.v x_64.l x_64.come x_64.ready x_64.commit.Kind x_64.commit.From x_64.commit.To x_64.commit.View x_64.commit.Inst x_64.commit.Len x_64.commit.Has x_64.commit.Members x_64.commit.Source x_64.commit.At x_64.commit.Total x_64.commit.Data x_64.commit.Hop x_64.commit.Seq x_64.commit.Have x_64.commit.Need x_64.commit.Index x_64.commit.Entry.Sess x_64.commit.Entry.Seq x_64.commit.Entry.Cmd.Kind x_64.commit.Entry.Cmd.Who x_64.commit.Entry.Cmd.Key x_64.commit.Entry.Cmd.Val x_64.commit.Entry.Cmd.Old x_64.is x_271) fun t_288 =>
  Option.bind (hocketref15_Gather_Take.f K x_81.n x_81.id x_81.v x_81.l x_81.commit.Kind x_81.commit.From x_81.commit.To x_81.commit.View x_81.commit.Inst x_81.commit.Len x_81.commit.Has x_81.commit.Members x_81.commit.Source x_81.commit.At x_81.commit.Total x_81.commit.Data x_81.commit.Hop x_81.commit.Seq x_81.commit.Have x_81.commit.Need x_81.commit.Index x_81.commit.Entry.Sess x_81.commit.Entry.Seq x_81.commit.Entry.Cmd.Kind x_81.commit.Entry.Cmd.Who x_81.commit.Entry.Cmd.Key x_81.commit.Entry.Cmd.Val x_81.commit.Entry.Cmd.Old x_81.sure x_81.ready x_271) fun t_315 =>
  if t_288.1 = t_315.1 then (
  hocketlaw18_GathPlays.J3 K again_98 x_63 (⟨t_288.2.1, t_288.2.2.1, t_288.2.2.2.1, t_288.2.2.2.2.1, t_288.2.2.2.2.2.1, t_288.2.2.2.2.2.2.1, (⟨t_288.2.2.2.2.2.2.2.1, t_288.2.2.2.2.2.2.2.2.1, t_288.2.2.2.2.2.2.2.2.2.1, t_288.2.2.2.2.2.2.2.2.2.2.1, t_288.2.2.2.2.2.2.2.2.2.2.2.1, t_288.2.2.2.2.2.2.2.2.2.2.2.2.1, t_288.2.2.2.2.2.2.2.2.2.2.2.2.2.1, t_288.2.2.2.2.2.2.2.2.2.2.2.2.2.2.1, t_288.2.2.2.2.2.2.2.2.2.2.2.2.2.2.2.1, t_288.2.2.2.2.2.2.2.2.2.2.2.2.2.2.2.2.1, t_288.2.2.2.2.2.2.2.2.2.2.2.2.2.2.2.2.2.1, t_288.2.2.2.2.2.2.2.2.2.2.2.2.2.2.2.2.2.2.1, t_288.2.2.2.2.2.2.2.2.2.2.2.2.2.2.2.2.2.2.2.1, t_288.2.2.2.2.2.2.2.2.2.2.2.2.2.2.2.2.2.2.2.2.1, t_288.2.2.2.2.2.2.2.2.2.2.2.2.2.2.2.2.2.2.2.2.2.1, t_288.2.2.2.2.2.2.2.2.2.2.2.2.2.2.2.2.2.2.2.2.2.2.1, t_288.2.2.2.2.2.2.2.2.2.2.2.2.2.2.2.2.2.2.2.2.2.2.2.1, (⟨t_288.2.2.2.2.2.2.2.2.2.2.2.2.2.2.2.2.2.2.2.2.2.2.2.2.1, t_288.2.2.2.2.2.2.2.2.2.2.2.2.2.2.2.2.2.2.2.2.2.2.2.2.2.1, (⟨t_288.2.2.2.2.2.2.2.2.2.2.2.2.2.2.2.2.2.2.2.2.2.2.2.2.2.2.1, t_288.2.2.2.2.2.2.2.2.2.2.2.2.2.2.2.2.2.2.2.2.2.2.2.2.2.2.2.1, t_288.2.2.2.2.2.2.2.2.2.2.2.2.2.2.2.2.2.2.2.2.2.2.2.2.2.2.2.2.1, t_288.2.2.2.2.2.2.2.2.2.2.2.2.2.2.2.2.2.2.2.2.2.2.2.2.2.2.2.2.2.1, t_288.2.2.2.2.2.2.2.2.2.2.2.2.2.2.2.2.2.2.2.2.2.2.2.2.2.2.2.2.2.2.1⟩ : api_Cmd)⟩ : api_Entry)⟩ : api_Msg), t_288.2.2.2.2.2.2.2.2.2.2.2.2.2.2.2.2.2.2.2.2.2.2.2.2.2.2.2.2.2.2.2⟩ : gath_Gather) (⟨t_315.2.1, t_315.2.2.1, t_315.2.2.2.1, t_315.2.2.2.2.1, (⟨t_315.2.2.2.2.2.1, t_315.2.2.2.2.2.2.1, t_315.2.2.2.2.2.2.2.1, t_315.2.2.2.2.2.2.2.2.1, t_315.2.2.2.2.2.2.2.2.2.1, t_315.2.2.2.2.2.2.2.2.2.2.1, t_315.2.2.2.2.2.2.2.2.2.2.2.1, t_315.2.2.2.2.2.2.2.2.2.2.2.2.1, t_315.2.2.2.2.2.2.2.2.2.2.2.2.2.1, t_315.2.2.2.2.2.2.2.2.2.2.2.2.2.2.1, t_315.2.2.2.2.2.2.2.2.2.2.2.2.2.2.2.1, t_315.2.2.2.2.2.2.2.2.2.2.2.2.2.2.2.2.1, t_315.2.2.2.2.2.2.2.2.2.2.2.2.2.2.2.2.2.1, t_315.2.2.2.2.2.2.2.2.2.2.2.2.2.2.2.2.2.2.1, t_315.2.2.2.2.2.2.2.2.2.2.2.2.2.2.2.2.2.2.2.1, t_315.2.2.2.2.2.2.2.2.2.2.2.2.2.2.2.2.2.2.2.2.1, t_315.2.2.2.2.2.2.2.2.2.2.2.2.2.2.2.2.2.2.2.2.2.1, (⟨t_315.2.2.2.2.2.2.2.2.2.2.2.2.2.2.2.2.2.2.2.2.2.2.1, t_315.2.2.2.2.2.2.2.2.2.2.2.2.2.2.2.2.2.2.2.2.2.2.2.1, (⟨t_315.2.2.2.2.2.2.2.2.2.2.2.2.2.2.2.2.2.2.2.2.2.2.2.2.1, t_315.2.2.2.2.2.2.2.2.2.2.2.2.2.2.2.2.2.2.2.2.2.2.2.2.2.1, t_315.2.2.2.2.2.2.2.2.2.2.2.2.2.2.2.2.2.2.2.2.2.2.2.2.2.2.1, t_315.2.2.2.2.2.2.2.2.2.2.2.2.2.2.2.2.2.2.2.2.2.2.2.2.2.2.2.1, t_315.2.2.2.2.2.2.2.2.2.2.2.2.2.2.2.2.2.2.2.2.2.2.2.2.2.2.2.2.1⟩ : api_Cmd)⟩ : api_Entry)⟩ : api_Msg), t_315.2.2.2.2.2.2.2.2.2.2.2.2.2.2.2.2.2.2.2.2.2.2.2.2.2.2.2.2.2.1, t_315.2.2.2.2.2.2.2.2.2.2.2.2.2.2.2.2.2.2.2.2.2.2.2.2.2.2.2.2.2.2⟩ : hocketref15_Gather))
  else (
  none)
def hocketlaw18_GathPlays.J7 (K : Nat) (x4 : List api_Msg) (x_63 : Int) (x_64 : gath_Gather) (x_81 : hocketref15_Gather) (again_98 : Int × gath_Gather × hocketref15_Gather → Option (Unit)) (x_229 : api_Msg) (t_257 : Int) (t_252 : Int) (x_267 : Bool) : Option (Unit) :=
  if x_267 = true then (
  Option.bind (ix x4 x_63) fun t_344 =>
  hocketlaw18_GathPlays.J8 K x_64 x_81 again_98 x_63 t_344)
  else (
  hocketlaw18_GathPlays.J8 K x_64 x_81 again_98 x_63 (⟨x_229.Kind, band .i64 (shr .i64 t_257 24) 7, x_229.To, w64 (9 + (w64 (Int.tdiv (band .i64 (shr .i64 t_252 20) 15) 15))), x_229.Inst, x_229.Len, x_229.Has, x_229.Members, x_229.Source, x_229.At, x_229.Total, x_229.Data, x_229.Hop, x_229.Seq, x_229.Have, x_229.Need, x_229.Index, x_229.Entry⟩ : api_Msg))
def hocketlaw18_GathPlays.J6 (K : Nat) (x3 : List Int) (x_63 : Int) (x4 : List api_Msg) (x_64 : gath_Gather) (x_81 : hocketref15_Gather) (again_98 : Int × gath_Gather × hocketref15_Gather → Option (Unit)) (x_229 : api_Msg) : Option (Unit) :=
  Option.bind (ix x3 x_63) fun t_252 =>
  Option.bind (ix x3 x_63) fun t_257 =>
  Option.bind (ix x3 x_63) fun t_365 =>
  if (band .i64 (shr .i64 t_365 27) 7) = 0 then (
  hocketlaw18_GathPlays.J7 K x4 x_63 x_64 x_81 again_98 x_229 t_257 t_252 (decide (x_63 < (x4.length : Int))))
  else (
  hocketlaw18_GathPlays.J7 K x4 x_63 x_64 x_81 again_98 x_229 t_257 t_252 false)
def hocketlaw18_GathPlays.J5 (K : Nat) (x3 : List Int) (x_63 : Int) (x4 : List api_Msg) (x_64 : gath_Gather) (x_81 : hocketref15_Gather) (again_98 : Int × gath_Gather × hocketref15_Gather → Option (Unit)) (t_109 : Int) (x_222 : Bool) : Option (Unit) :=
  if x_222 = true then (
  Option.bind (ix x3 x_63) fun t_372 =>
  Option.bind (ix x3 x_63) fun t_377 =>
  Option.bind (hocketlaw11_Msg.f K (bor .i64 (bandn .i64 t_372 7) 1) (shr .i64 t_377 5)) fun t_382 =>
  hocketlaw18_GathPlays.J6 K x3 x_63 x4 x_64 x_81 again_98 t_382)
  else (
  if (band .i64 t_109 7) = 4 then (
  Option.bind (gath_Gather_Commit.f K x_64.n x_64.id x_64.v x_64.l x_64.come x_64.ready x_64.commit.Kind x_64.commit.From x_64.commit.To x_64.commit.View x_64.commit.Inst x_64.commit.Len x_64.commit.Has x_64.commit.Members x_64.commit.Source x_64.commit.At x_64.commit.Total x_64.commit.Data x_64.commit.Hop x_64.commit.Seq x_64.commit.Have x_64.commit.Need x_64.commit.Index x_64.commit.Entry.Sess x_64.commit.Entry.Seq x_64.commit.Entry.Cmd.Kind x_64.commit.Entry.Cmd.Who x_64.commit.Entry.Cmd.Key x_64.commit.Entry.Cmd.Val x_64.commit.Entry.Cmd.Old x_64.is) fun t_433 =>
  Option.bind (hocketref15_Gather_Commit.f K x_81.n x_81.id x_81.v x_81.l x_81.commit.Kind x_81.commit.From x_81.commit.To x_81.commit.View x_81.commit.Inst x_81.commit.Len x_81.commit.Has x_81.commit.Members x_81.commit.Source x_81.commit.At x_81.commit.Total x_81.commit.Data x_81.commit.Hop x_81.commit.Seq x_81.commit.Have x_81.commit.Need x_81.commit.Index x_81.commit.Entry.Sess x_81.commit.Entry.Seq x_81.commit.Entry.Cmd.Kind x_81.commit.Entry.Cmd.Who x_81.commit.Entry.Cmd.Key x_81.commit.Entry.Cmd.Val x_81.commit.Entry.Cmd.Old x_81.sure x_81.ready) fun t_481 =>
  if t_433.2.1 = t_481.2.1 then (
  Option.bind (hocketref11_Same.f K t_433.1 t_481.1) fun t_531 =>
  if t_531 = true then (
  hocketlaw18_GathPlays.J3 K again_98 x_63 (⟨t_433.2.2.1, t_433.2.2.2.1, t_433.2.2.2.2.1, t_433.2.2.2.2.2.1, t_433.2.2.2.2.2.2.1, t_433.2.2.2.2.2.2.2.1, (⟨t_433.2.2.2.2.2.2.2.2.1, t_433.2.2.2.2.2.2.2.2.2.1, t_433.2.2.2.2.2.2.2.2.2.2.1, t_433.2.2.2.2.2.2.2.2.2.2.2.1, t_433.2.2.2.2.2.2.2.2.2.2.2.2.1, t_433.2.2.2.2.2.2.2.2.2.2.2.2.2.1, t_433.2.2.2.2.2.2.2.2.2.2.2.2.2.2.1, t_433.2.2.2.2.2.2.2.2.2.2.2.2.2.2.2.1, t_433.2.2.2.2.2.2.2.2.2.2.2.2.2.2.2.2.1, t_433.2.2.2.2.2.2.2.2.2.2.2.2.2.2.2.2.2.1, t_433.2.2.2.2.2.2.2.2.2.2.2.2.2.2.2.2.2.2.1, t_433.2.2.2.2.2.2.2.2.2.2.2.2.2.2.2.2.2.2.2.1, t_433.2.2.2.2.2.2.2.2.2.2.2.2.2.2.2.2.2.2.2.2.1, t_433.2.2.2.2.2.2.2.2.2.2.2.2.2.2.2.2.2.2.2.2.2.1, t_433.2.2.2.2.2.2.2.2.2.2.2.2.2.2.2.2.2.2.2.2.2.2.1, t_433.2.2.2.2.2.2.2.2.2.2.2.2.2.2.2.2.2.2.2.2.2.2.2.1, t_433.2.2.2.2.2.2.2.2.2.2.2.2.2.2.2.2.2.2.2.2.2.2.2.2.1, (⟨t_433.2.2.2.2.2.2.2.2.2.2.2.2.2.2.2.2.2.2.2.2.2.2.2.2.2.1, t_433.2.2.2.2.2.2.2.2.2.2.2.2.2.2.2.2.2.2.2.2.2.2.2.2.2.2.1, (⟨t_433.2.2.2.2.2.2.2.2.2.2.2.2.2.2.2.2.2.2.2.2.2.2.2.2.2.2.2.1, t_433.2.2.2.2.2.2.2.2.2.2.2.2.2.2.2.2.2.2.2.2.2.2.2.2.2.2.2.2.1, t_433.2.2.2.2.2.2.2.2.2.2.2.2.2.2.2.2.2.2.2.2.2.2.2.2.2.2.2.2.2.1, t_433.2.2.2.2.2.2.2.2.2.2.2.2.2.2.2.2.2.2.2.2.2.2.2.2.2.2.2.2.2.2.1, t_433.2.2.2.2.2.2.2.2.2.2.2.2.2.2.2.2.2.2.2.2.2.2.2.2.2.2.2.2.2.2.2.1⟩ : api_Cmd)⟩ : api_Entry)⟩ : api_Msg), t_433.2.2.2.2.2.2.2.2.2.2.2.2.2.2.2.2.2.2.2.2.2.2.2.2.2.2.2.2.2.2.2.2⟩ : gath_Gather) (⟨t_481.2.2.1, t_481.2.2.2.1, t_481.2.2.2.2.1, t_481.2.2.2.2.2.1, (⟨t_481.2.2.2.2.2.2.1, t_481.2.2.2.2.2.2.2.1, t_481.2.2.2.2.2.2.2.2.1, t_481.2.2.2.2.2.2.2.2.2.1, t_481.2.2.2.2.2.2.2.2.2.2.1, t_481.2.2.2.2.2.2.2.2.2.2.2.1, t_481.2.2.2.2.2.2.2.2.2.2.2.2.1, t_481.2.2.2.2.2.2.2.2.2.2.2.2.2.1, t_481.2.2.2.2.2.2.2.2.2.2.2.2.2.2.1, t_481.2.2.2.2.2.2.2.2.2.2.2.2.2.2.2.1, t_481.2.2.2.2.2.2.2.2.2.2.2.2.2.2.2.2.1, t_481.2.2.2.2.2.2.2.2.2.2.2.2.2.2.2.2.2.1, t_481.2.2.2.2.2.2.2.2.2.2.2.2.2.2.2.2.2.2.1, t_481.2.2.2.2.2.2.2.2.2.2.2.2.2.2.2.2.2.2.2.1, t_481.2.2.2.2.2.2.2.2.2.2.2.2.2.2.2.2.2.2.2.2.1, t_481.2.2.2.2.2.2.2.2.2.2.2.2.2.2.2.2.2.2.2.2.2.1, t_481.2.2.2.2.2.2.2.2.2.2.2.2.2.2.2.2.2.2.2.2.2.2.1, (⟨t_481.2.2.2.2.2.2.2.2.2.2.2.2.2.2.2.2.2.2.2.2.2.2.2.1, t_481.2.2.2.2.2.2.2.2.2.2.2.2.2.2.2.2.2.2.2.2.2.2.2.2.1, (⟨t_481.2.2.2.2.2.2.2.2.2.2.2.2.2.2.2.2.2.2.2.2.2.2.2.2.2.1, t_481.2.2.2.2.2.2.2.2.2.2.2.2.2.2.2.2.2.2.2.2.2.2.2.2.2.2.1, t_481.2.2.2.2.2.2.2.2.2.2.2.2.2.2.2.2.2.2.2.2.2.2.2.2.2.2.2.1, t_481.2.2.2.2.2.2.2.2.2.2.2.2.2.2.2.2.2.2.2.2.2.2.2.2.2.2.2.2.1, t_481.2.2.2.2.2.2.2.2.2.2.2.2.2.2.2.2.2.2.2.2.2.2.2.2.2.2.2.2.2.1⟩ : api_Cmd)⟩ : api_Entry)⟩ : api_Msg), t_481.2.2.2.2.2.2.2.2.2.2.2.2.2.2.2.2.2.2.2.2.2.2.2.2.2.2.2.2.2.2.1, t_481.2.2.2.2.2.2.2.2.2.2.2.2.2.2.2.2.2.2.2.2.2.2.2.2.2.2.2.2.2.2.2⟩ : hocketref15_Gather))
  else (
  none))
  else (
  none))
  else (
  Option.bind (ix x3 x_63) fun t_536 =>
  Option.bind (gath_Gather_Ready.f K x_64.n x_64.id x_64.v x_64.l x_64.come x_64.ready x_64.commit.Kind x_64.commit.From x_64.commit.To x_64.commit.View x_64.commit.Inst x_64.commit.Len x_64.commit.Has x_64.commit.Members x_64.commit.Source x_64.commit.At x_64.commit.Total x_64.commit.Data x_64.commit.Hop x_64.commit.Seq x_64.commit.Have x_64.commit.Need x_64.commit.Index x_64.commit.Entry.Sess x_64.commit.Entry.Seq x_64.commit.Entry.Cmd.Kind x_64.commit.Entry.Cmd.Who x_64.commit.Entry.Cmd.Key x_64.commit.Entry.Cmd.Val x_64.commit.Entry.Cmd.Old x_64.is (w64 ((band .i64 (shr .i64 t_536 3) 15) - 3))) fun t_541 =>
  Option.bind (hocketref15_Gather_Ready.f x_81.n x_81.id x_81.v x_81.l x_81.commit.Kind x_81.commit.From x_81.commit.To x_81.commit.View x_81.commit.Inst x_81.commit.Len x_81.commit.Has x_81.commit.Members x_81.commit.Source x_81.commit.At x_81.commit.Total x_81.commit.Data x_81.commit.Hop x_81.commit.Seq x_81.commit.Have x_81.commit.Need x_81.commit.Index x_81.commit.Entry.Sess x_81.commit.Entry.Seq x_81.commit.Entry.Cmd.Kind x_81.commit.Entry.Cmd.Who x_81.commit.Entry.Cmd.Key x_81.commit.Entry.Cmd.Val x_81.commit.Entry.Cmd.Old x_81.sure x_81.ready (w64 ((band .i64 (shr .i64 t_536 3) 15) - 3))) fun t_568 =>
  if t_541.1 = t_568.1 then (
  hocketlaw18_GathPlays.J3 K again_98 x_63 (⟨t_541.2.1, t_541.2.2.1, t_541.2.2.2.1, t_541.2.2.2.2.1, t_541.2.2.2.2.2.1, t_541.2.2.2.2.2.2.1, (⟨t_541.2.2.2.2.2.2.2.1, t_541.2.2.2.2.2.2.2.2.1, t_541.2.2.2.2.2.2.2.2.2.1, t_541.2.2.2.2.2.2.2.2.2.2.1, t_541.2.2.2.2.2.2.2.2.2.2.2.1, t_541.2.2.2.2.2.2.2.2.2.2.2.2.1, t_541.2.2.2.2.2.2.2.2.2.2.2.2.2.1, t_541.2.2.2.2.2.2.2.2.2.2.2.2.2.2.1, t_541.2.2.2.2.2.2.2.2.2.2.2.2.2.2.2.1, t_541.2.2.2.2.2.2.2.2.2.2.2.2.2.2.2.2.1, t_541.2.2.2.2.2.2.2.2.2.2.2.2.2.2.2.2.2.1, t_541.2.2.2.2.2.2.2.2.2.2.2.2.2.2.2.2.2.2.1, t_541.2.2.2.2.2.2.2.2.2.2.2.2.2.2.2.2.2.2.2.1, t_541.2.2.2.2.2.2.2.2.2.2.2.2.2.2.2.2.2.2.2.2.1, t_541.2.2.2.2.2.2.2.2.2.2.2.2.2.2.2.2.2.2.2.2.2.1, t_541.2.2.2.2.2.2.2.2.2.2.2.2.2.2.2.2.2.2.2.2.2.2.1, t_541.2.2.2.2.2.2.2.2.2.2.2.2.2.2.2.2.2.2.2.2.2.2.2.1, (⟨t_541.2.2.2.2.2.2.2.2.2.2.2.2.2.2.2.2.2.2.2.2.2.2.2.2.1, t_541.2.2.2.2.2.2.2.2.2.2.2.2.2.2.2.2.2.2.2.2.2.2.2.2.2.1, (⟨t_541.2.2.2.2.2.2.2.2.2.2.2.2.2.2.2.2.2.2.2.2.2.2.2.2.2.2.1, t_541.2.2.2.2.2.2.2.2.2.2.2.2.2.2.2.2.2.2.2.2.2.2.2.2.2.2.2.1, t_541.2.2.2.2.2.2.2.2.2.2.2.2.2.2.2.2.2.2.2.2.2.2.2.2.2.2.2.2.1, t_541.2.2.2.2.2.2.2.2.2.2.2.2.2.2.2.2.2.2.2.2.2.2.2.2.2.2.2.2.2.1, t_541.2.2.2.2.2.2.2.2.2.2.2.2.2.2.2.2.2.2.2.2.2.2.2.2.2.2.2.2.2.2.1⟩ : api_Cmd)⟩ : api_Entry)⟩ : api_Msg), t_541.2.2.2.2.2.2.2.2.2.2.2.2.2.2.2.2.2.2.2.2.2.2.2.2.2.2.2.2.2.2.2⟩ : gath_Gather) (⟨t_568.2.1, t_568.2.2.1, t_568.2.2.2.1, t_568.2.2.2.2.1, (⟨t_568.2.2.2.2.2.1, t_568.2.2.2.2.2.2.1, t_568.2.2.2.2.2.2.2.1, t_568.2.2.2.2.2.2.2.2.1, t_568.2.2.2.2.2.2.2.2.2.1, t_568.2.2.2.2.2.2.2.2.2.2.1, t_568.2.2.2.2.2.2.2.2.2.2.2.1, t_568.2.2.2.2.2.2.2.2.2.2.2.2.1, t_568.2.2.2.2.2.2.2.2.2.2.2.2.2.1, t_568.2.2.2.2.2.2.2.2.2.2.2.2.2.2.1, t_568.2.2.2.2.2.2.2.2.2.2.2.2.2.2.2.1, t_568.2.2.2.2.2.2.2.2.2.2.2.2.2.2.2.2.1, t_568.2.2.2.2.2.2.2.2.2.2.2.2.2.2.2.2.2.1, t_568.2.2.2.2.2.2.2.2.2.2.2.2.2.2.2.2.2.2.1, t_568.2.2.2.2.2.2.2.2.2.2.2.2.2.2.2.2.2.2.2.1, t_568.2.2.2.2.2.2.2.2.2.2.2.2.2.2.2.2.2.2.2.2.1, t_568.2.2.2.2.2.2.2.2.2.2.2.2.2.2.2.2.2.2.2.2.2.1, (⟨t_568.2.2.2.2.2.2.2.2.2.2.2.2.2.2.2.2.2.2.2.2.2.2.1, t_568.2.2.2.2.2.2.2.2.2.2.2.2.2.2.2.2.2.2.2.2.2.2.2.1, (⟨t_568.2.2.2.2.2.2.2.2.2.2.2.2.2.2.2.2.2.2.2.2.2.2.2.2.1, t_568.2.2.2.2.2.2.2.2.2.2.2.2.2.2.2.2.2.2.2.2.2.2.2.2.2.1, t_568.2.2.2.2.2.2.2.2.2.2.2.2.2.2.2.2.2.2.2.2.2.2.2.2.2.2.1, t_568.2.2.2.2.2.2.2.2.2.2.2.2.2.2.2.2.2.2.2.2.2.2.2.2.2.2.2.1, t_568.2.2.2.2.2.2.2.2.2.2.2.2.2.2.2.2.2.2.2.2.2.2.2.2.2.2.2.2.1⟩ : api_Cmd)⟩ : api_Entry)⟩ : api_Msg), t_568.2.2.2.2.2.2.2.2.2.2.2.2.2.2.2.2.2.2.2.2.2.2.2.2.2.2.2.2.2.1, t_568.2.2.2.2.2.2.2.2.2.2.2.2.2.2.2.2.2.2.2.2.2.2.2.2.2.2.2.2.2.2⟩ : hocketref15_Gather))
  else (
  none)))
def hocketlaw18_GathPlays.J2 (K : Nat) (x3 : List Int) (x_63 : Int) (x4 : List api_Msg) (x_64 : gath_Gather) (x_81 : hocketref15_Gather) (again_98 : Int × gath_Gather × hocketref15_Gather → Option (Unit)) (ex_98 : Unit → Option (Unit)) (x_103 : Bool) : Option (Unit) :=
  if x_103 = true then (
  Option.bind (ix x3 x_63) fun t_109 =>
  if (band .i64 t_109 7) = 0 then (
  hocketlaw18_GathPlays.J5 K x3 x_63 x4 x_64 x_81 again_98 t_109 ((band .i64 t_109 7) == 0))
  else (
  if (band .i64 t_109 7) = 1 then (
  hocketlaw18_GathPlays.J5 K x3 x_63 x4 x_64 x_81 again_98 t_109 ((band .i64 t_109 7) == 1))
  else (
  if (band .i64 t_109 7) = 2 then (
  hocketlaw18_GathPlays.J5 K x3 x_63 x4 x_64 x_81 again_98 t_109 ((band .i64 t_109 7) == 2))
  else (
  hocketlaw18_GathPlays.J5 K x3 x_63 x4 x_64 x_81 again_98 t_109 ((band .i64 t_109 7) == 3)))))
  else (
  ex_98 ())
def hocketlaw18_GathPlays.B1 (K : Nat) (x3 : List Int) (x4 : List api_Msg) (ex_98 : Unit → Option (Unit)) (again_98 : Int × gath_Gather × hocketref15_Gather → Option (Unit)) (x_63 : Int) (x_64 : gath_Gather) (x_81 : hocketref15_Gather) : Option (Unit) :=
  if x_63 < (x3.length : Int) then (
  hocketlaw18_GathPlays.J2 K x3 x_63 x4 x_64 x_81 again_98 ex_98 (decide (x_63 < 40)))
  else (
  hocketlaw18_GathPlays.J2 K x3 x_63 x4 x_64 x_81 again_98 ex_98 false)
def hocketlaw18_GathPlays.L1 (K : Nat) (x3 : List Int) (x4 : List api_Msg) (ex_98 : Unit → Option (Unit)) : Nat → Int × gath_Gather × hocketref15_Gather → Option (Unit) :=
  iter fun again v => hocketlaw18_GathPlays.B1 K x3 x4 ex_98 again v.1 v.2.1 v.2.2
def hocketlaw18_GathPlays.f (K : Nat) (x0 : Int) (x1 : Int) (x2 : api_Msg) (x3 : List Int) (x4 : List api_Msg) : Option (Unit) :=
  Option.bind (rem (band .i64 x1 255) (mx (w64 ((band .i64 x0 7) + 0)) 1)) fun t_3 =>
  Option.bind (gath_New.f (w64 ((band .i64 x0 7) + 0)) t_3 9 (⟨2, t_3, x2.To, 9, x2.Inst, x2.Len, x2.Has, x2.Members, x2.Source, x2.At, x2.Total, x2.Data, x2.Hop, x2.Seq, x2.Have, x2.Need, x2.Index, x2.Entry⟩ : api_Msg)) fun t_9 =>
  Option.bind (hocketref15_New.f (w64 ((band .i64 x0 7) + 0)) t_3 9 (⟨2, t_3, x2.To, 9, x2.Inst, x2.Len, x2.Has, x2.Members, x2.Source, x2.At, x2.Total, x2.Data, x2.Hop, x2.Seq, x2.Have, x2.Need, x2.Index, x2.Entry⟩ : api_Msg)) fun t_31 =>
  hocketlaw18_GathPlays.L1 K x3 x4 (fun v => hocketlaw18_GathPlays.J1 K) K (0, (⟨t_9.1, t_9.2.1, t_9.2.2.1, t_9.2.2.2.1, t_9.2.2.2.2.1, t_9.2.2.2.2.2.1, (⟨t_9.2.2.2.2.2.2.1, t_9.2.2.2.2.2.2.2.1, t_9.2.2.2.2.2.2.2.2.1, t_9.2.2.2.2.2.2.2.2.2.1, t_9.2.2.2.2.2.2.2.2.2.2.1, t_9.2.2.2.2.2.2.2.2.2.2.2.1, t_9.2.2.2.2.2.2.2.2.2.2.2.2.1, t_9.2.2.2.2.2.2.2.2.2.2.2.2.2.1, t_9.2.2.2.2.2.2.2.2.2.2.2.2.2.2.1, t_9.2.2.2.2.2.2.2.2.2.2.2.2.2.2.2.1, t_9.2.2.2.2.2.2.2.2.2.2.2.2.2.2.2.2.1, t_9.2.2.2.2.2.2.2.2.2.2.2.2.2.2.2.2.2.1, t_9.2.2.2.2.2.2.2.2.2.2.2.2.2.2.2.2.2.2.1, t_9.2.2.2.2.2.2.2.2.2.2.2.2.2.2.2.2.2.2.2.1, t_9.2.2.2.2.2.2.2.2.2.2.2.2.2.2.2.2.2.2.2.2.1, t_9.2.2.2.2.2.2.2.2.2.2.2.2.2.2.2.2.2.2.2.2.2.1, t_9.2.2.2.2.2.2.2.2.2.2.2.2.2.2.2.2.2.2.2.2.2.2.1, (⟨t_9.2.2.2.2.2.2.2.2.2.2.2.2.2.2.2.2.2.2.2.2.2.2.2.1, t_9.2.2.2.2.2.2.2.2.2.2.2.2.2.2.2.2.2.2.2.2.2.2.2.2.1, (⟨t_9.2.2.2.2.2.2.2.2.2.2.2.2.2.2.2.2.2.2.2.2.2.2.2.2.2.1, t_9.2.2.2.2.2.2.2.2.2.2.2.2.2.2.2.2.2.2.2.2.2.2.2.2.2.2.1, t_9.2.2.2.2.2.2.2.2.2.2.2.2.2.2.2.2.2.2.2.2.2.2.2.2.2.2.2.1, t_9.2.2.2.2.2.2.2.2.2.2.2.2.2.2.2.2.2.2.2.2.2.2.2.2.2.2.2.2.1, t_9.2.2.2.2.2.2.2.2.2.2.2.2.2.2.2.2.2.2.2.2.2.2.2.2.2.2.2.2.2.1⟩ : api_Cmd)⟩ : api_Entry)⟩ : api_Msg), t_9.2.2.2.2.2.2.2.2.2.2.2.2.2.2.2.2.2.2.2.2.2.2.2.2.2.2.2.2.2.2⟩ : gath_Gather), (⟨t_31.1, t_31.2.1, t_31.2.2.1, t_31.2.2.2.1, (⟨t_31.2.2.2.2.1, t_31.2.2.2.2.2.1, t_31.2.2.2.2.2.2.1, t_31.2.2.2.2.2.2.2.1, t_31.2.2.2.2.2.2.2.2.1, t_31.2.2.2.2.2.2.2.2.2.1, t_31.2.2.2.2.2.2.2.2.2.2.1, t_31.2.2.2.2.2.2.2.2.2.2.2.1, t_31.2.2.2.2.2.2.2.2.2.2.2.2.1, t_31.2.2.2.2.2.2.2.2.2.2.2.2.2.1, t_31.2.2.2.2.2.2.2.2.2.2.2.2.2.2.1, t_31.2.2.2.2.2.2.2.2.2.2.2.2.2.2.2.1, t_31.2.2.2.2.2.2.2.2.2.2.2.2.2.2.2.2.1, t_31.2.2.2.2.2.2.2.2.2.2.2.2.2.2.2.2.2.1, t_31.2.2.2.2.2.2.2.2.2.2.2.2.2.2.2.2.2.2.1, t_31.2.2.2.2.2.2.2.2.2.2.2.2.2.2.2.2.2.2.2.1, t_31.2.2.2.2.2.2.2.2.2.2.2.2.2.2.2.2.2.2.2.2.1, (⟨t_31.2.2.2.2.2.2.2.2.2.2.2.2.2.2.2.2.2.2.2.2.2.1, t_31.2.2.2.2.2.2.2.2.2.2.2.2.2.2.2.2.2.2.2.2.2.2.1, (⟨t_31.2.2.2.2.2.2.2.2.2.2.2.2.2.2.2.2.2.2.2.2.2.2.2.1, t_31.2.2.2.2.2.2.2.2.2.2.2.2.2.2.2.2.2.2.2.2.2.2.2.2.1, t_31.2.2.2.2.2.2.2.2.2.2.2.2.2.2.2.2.2.2.2.2.2.2.2.2.2.1, t_31.2.2.2.2.2.2.2.2.2.2.2.2.2.2.2.2.2.2.2.2.2.2.2.2.2.2.1, t_31.2.2.2.2.2.2.2.2.2.2.2.2.2.2.2.2.2.2.2.2.2.2.2.2.2.2.2.1⟩ : api_Cmd)⟩ : api_Entry)⟩ : api_Msg), t_31.2.2.2.2.2.2.2.2.2.2.2.2.2.2.2.2.2.2.2.2.2.2.2.2.2.2.2.2.1, t_31.2.2.2.2.2.2.2.2.2.2.2.2.2.2.2.2.2.2.2.2.2.2.2.2.2.2.2.2.2⟩ : hocketref15_Gather))

def hocketlaw18_GathOnce.J2 (K : Nat) (t_45 : api_Msg × Bool × Int × Int × Int × (List api_Msg) × Int × Int × Int × Int × Int × Int × Int × Int × Bool × Int × Int × Int × Int × (List UInt8) × Int × Int × (List Int) × (List Int) × Int × Int × Int × Int × Int × (List UInt8) × (List UInt8) × (List UInt8) × Bool) (x_25 : Int) (x0 : Int) : Option (Unit) :=
  if t_45.2.1 = true then (
  if t_45.1.Members = x_25 then (
  Option.bind (hocketref11_Most.f K t_45.1.Members (w64 ((Int.tmod (band .i64 x0 255) 7) + 1))) fun t_87 =>
  if t_87 = true then (
  if (band .i64 (shr .i64 t_45.1.Members (wu64 t_45.1.Source)) 1) = 1 then (
  if t_45.1.View = 8 then (
  Option.bind (hocketlaw18_awake.f K) fun t_94 =>
  some ())
  else (
  none))
  else (
  none))
  else (
  none))
  else (
  none))
  else (
  Option.bind (hocketlaw18_awake.f K) fun t_98 =>
  some ())
def hocketlaw18_GathOnce.J5 (K : Nat) (again_121 : Int × gath_Gather → Option (Unit)) (x_103 : Int) (t_191 : api_Msg × Bool × Int × Int × Int × (List api_Msg) × Int × Int × Int × Int × Int × Int × Int × Int × Bool × Int × Int × Int × Int × (List UInt8) × Int × Int × (List Int) × (List Int) × Int × Int × Int × Int × Int × (List UInt8) × (List UInt8) × (List UInt8) × Bool) (x_228 : Bool) : Option (Unit) :=
  if x_228 = true then (
  none)
  else (
  again_121 (w64 (x_103 + 1), (⟨t_191.2.2.1, t_191.2.2.2.1, t_191.2.2.2.2.1, t_191.2.2.2.2.2.1, t_191.2.2.2.2.2.2.1, t_191.2.2.2.2.2.2.2.1, (⟨t_191.2.2.2.2.2.2.2.2.1, t_191.2.2.2.2.2.2.2.2.2.1, t_191.2.2.2.2.2.2.2.2.2.2.1, t_191.2.2.2.2.2.2.2.2.2.2.2.1, t_191.2.2.2.2.2.2.2.2.2.2.2.2.1, t_191.2.2.2.2.2.2.2.2.2.2.2.2.2.1, t_191.2.2.2.2.2.2.2.2.2.2.2.2.2.2.1, t_191.2.2.2.2.2.2.2.2.2.2.2.2.2.2.2.1, t_191.2.2.2.2.2.2.2.2.2.2.2.2.2.2.2.2.1, t_191.2.2.2.2.2.2.2.2.2.2.2.2.2.2.2.2.2.1, t_191.2.2.2.2.2.2.2.2.2.2.2.2.2.2.2.2.2.2.1, t_191.2.2.2.2.2.2.2.2.2.2.2.2.2.2.2.2.2.2.2.1, t_191.2.2.2.2.2.2.2.2.2.2.2.2.2.2.2.2.2.2.2.2.1, t_191.2.2.2.2.2.2.2.2.2.2.2.2.2.2.2.2.2.2.2.2.2.1, t_191.2.2.2.2.2.2.2.2.2.2.2.2.2.2.2.2.2.2.2.2.2.2.1, t_191.2.2.2.2.2.2.2.2.2.2.2.2.2.2.2.2.2.2.2.2.2.2.2.1, t_191.2.2.2.2.2.2.2.2.2.2.2.2.2.2.2.2.2.2.2.2.2.2.2.2.1, (⟨t_191.2.2.2.2.2.2.2.2.2.2.2.2.2.2.2.2.2.2.2.2.2.2.2.2.2.1, t_191.2.2.2.2.2.2.2.2.2.2.2.2.2.2.2.2.2.2.2.2.2.2.2.2.2.2.1, (⟨t_191.2.2.2.2.2.2.2.2.2.2.2.2.2.2.2.2.2.2.2.2.2.2.2.2.2.2.2.1, t_191.2.2.2.2.2.2.2.2.2.2.2.2.2.2.2.2.2.2.2.2.2.2.2.2.2.2.2.2.1, t_191.2.2.2.2.2.2.2.2.2.2.2.2.2.2.2.2.2.2.2.2.2.2.2.2.2.2.2.2.2.1, t_191.2.2.2.2.2.2.2.2.2.2.2.2.2.2.2.2.2.2.2.2.2.2.2.2.2.2.2.2.2.2.1, t_191.2.2.2.2.2.2.2.2.2.2.2.2.2.2.2.2.2.2.2.2.2.2.2.2.2.2.2.2.2.2.2.1⟩ : api_Cmd)⟩ : api_Entry)⟩ : api_Msg), t_191.2.2.2.2.2.2.2.2.2.2.2.2.2.2.2.2.2.2.2.2.2.2.2.2.2.2.2.2.2.2.2.2⟩ : gath_Gather)))
def hocketlaw18_GathOnce.J4 (K : Nat) (x2 : List Int) (x_103 : Int) (t_140 : Bool × Int × Int × Int × (List api_Msg) × Int × Int × Int × Int × Int × Int × Int × Int × Bool × Int × Int × Int × Int × (List UInt8) × Int × Int × (List Int) × (List Int) × Int × Int × Int × Int × Int × (List UInt8) × (List UInt8) × (List UInt8) × Bool) (t_45 : api_Msg × Bool × Int × Int × Int × (List api_Msg) × Int × Int × Int × Int × Int × Int × Int × Int × Bool × Int × Int × Int × Int × (List UInt8) × Int × Int × (List Int) × (List Int) × Int × Int × Int × Int × Int × (List UInt8) × (List UInt8) × (List UInt8) × Bool) (again_121 : Int × gath_Gather → Option (Unit)) (x_162 : Bool) : Option (Unit) :=
  if x_162 = true then (
  none)
  else (
  Option.bind (ix x2 x_103) fun t_166 =>
  Option.bind (gath_Gather_Ready.f K t_140.2.1 t_140.2.2.1 t_140.2.2.2.1 t_140.2.2.2.2.1 t_140.2.2.2.2.2.1 t_140.2.2.2.2.2.2.1 t_140.2.2.2.2.2.2.2.1 t_140.2.2.2.2.2.2.2.2.1 t_140.2.2.2.2.2.2.2.2.2.1 t_140.2.2.2.2.2.2.2.2.2.2.1 t_140.2.2.2.2.2.2.2.2.2.2.2.1 t_140.2.2.2.2.2.2.2.2.2.2.2.2.1 t_140.2.2.2.2.2.2.2.2.2.2.2.2.2.1 t_140.2.2.2.2.2.2.2.2.2.2.2.2.2.2.1 t_140.2.2.2.2.2.2.2.2.2.2.2.2.2.2.2.1 t_140.2.2.2.2.2.2.2.2.2.2.2.2.2.2.2.2.1 t_140.2.2.2.2.2.2.2.2.2.2.2.2.2.2.2.2.2.1 t_140.2.2.2.2.2.2.2.2.2.2.2.2.2.2.2.2.2.2.1 t_140.2.2.2.2.2.2.2.2.2.2.2.2.2.2.2.2.2.2.2.1 t_140.2.2.2.2.2.2.2.2.2.2.2.2.2.2.2.2.2.2.2.2.1 t_140.2.2.2.2.2.2.2.2.2.2.2.2.2.2.2.2.2.2.2.2.2.1 t_140.2.2.2.2.2.2.2.2.2.2.2.2.2.2.2.2.2.2.2.2.2.2.1 t_140.2.2.2.2.2.2.2.2.2.2.2.2.2.2.2.2.2.2.2.2.2.2.2.1 t_140.2.2.2.2.2.2.2.2.2.2.2.2.2.2.2.2.2.2.2.2.2.2.2.2.1 t_140.2.2.2.2.2.2.2.2.2.2.2.2.2.2.2.2.2.2.2.2.2.2.2.2.2.1 t_140.2.2.2.2.2.2.2.2.2.2.2.2.2.2.2.2.2.2.2.2.2.2.2.2.2.2.1 t_140.2.2.2.2.2.2.2.2.2.2.2.2.2.2.2.2.2.2.2.2.2.2.2.2.2.2.2.1 t_140.2.2.2.2.2.2.2.2.2.2.2.2.2.2.2.2.2.2.2.2.2.2.2.2.2.2.2.2.1 t_140.2.2.2.2.2.2.2.2.2.2.2.2.2.2.2.2.2.2.2.2.2.2.2.2.2.2.2.2.2.1 t_140.2.2.2.2.2.2.2.2.2.2.2.2.2.2.2.2.2.2.2.2.2.2.2.2.2.2.2.2.2.2.1 t_140.2.2.2.2.2.2.2.2.2.2.2.2.2.2.2.2.2.2.2.2.2.2.2.2.2.2.2.2.2.2.2 (band .i64 (shr .i64 t_166 3) 7)) fun t_171 =>
  Option.bind (gath_Gather_Commit.f K t_171.2.1 t_171.2.2.1 t_171.2.2.2.1 t_171.2.2.2.2.1 t_171.2.2.2.2.2.1 t_171.2.2.2.2.2.2.1 t_171.2.2.2.2.2.2.2.1 t_171.2.2.2.2.2.2.2.2.1 t_171.2.2.2.2.2.2.2.2.2.1 t_171.2.2.2.2.2.2.2.2.2.2.1 t_171.2.2.2.2.2.2.2.2.2.2.2.1 t_171.2.2.2.2.2.2.2.2.2.2.2.2.1 t_171.2.2.2.2.2.2.2.2.2.2.2.2.2.1 t_171.2.2.2.2.2.2.2.2.2.2.2.2.2.2.1 t_171.2.2.2.2.2.2.2.2.2.2.2.2.2.2.2.1 t_171.2.2.2.2.2.2.2.2.2.2.2.2.2.2.2.2.1 t_171.2.2.2.2.2.2.2.2.2.2.2.2.2.2.2.2.2.1 t_171.2.2.2.2.2.2.2.2.2.2.2.2.2.2.2.2.2.2.1 t_171.2.2.2.2.2.2.2.2.2.2.2.2.2.2.2.2.2.2.2.1 t_171.2.2.2.2.2.2.2.2.2.2.2.2.2.2.2.2.2.2.2.2.1 t_171.2.2.2.2.2.2.2.2.2.2.2.2.2.2.2.2.2.2.2.2.2.1 t_171.2.2.2.2.2.2.2.2.2.2.2.2.2.2.2.2.2.2.2.2.2.2.1 t_171.2.2.2.2.2.2.2.2.2.2.2.2.2.2.2.2.2.2.2.2.2.2.2.1 t_171.2.2.2.2.2.2.2.2.2.2.2.2.2.2.2.2.2.2.2.2.2.2.2.2.1 t_171.2.2.2.2.2.2.2.2.2.2.2.2.2.2.2.2.2.2.2.2.2.2.2.2.2.1 t_171.2.2.2.2.2.2.2.2.2.2.2.2.2.2.2.2.2.2.2.2.2.2.2.2.2.2.1 t_171.2.2.2.2.2.2.2.2.2.2.2.2.2.2.2.2.2.2.2.2.2.2.2.2.2.2.2.1 t_171.2.2.2.2.2.2.2.2.2.2.2.2.2.2.2.2.2.2.2.2.2.2.2.2.2.2.2.2.1 t_171.2.2.2.2.2.2.2.2.2.2.2.2.2.2.2.2.2.2.2.2.2.2.2.2.2.2.2.2.2.1 t_171.2.2.2.2.2.2.2.2.2.2.2.2.2.2.2.2.2.2.2.2.2.2.2.2.2.2.2.2.2.2.1 t_171.2.2.2.2.2.2.2.2.2.2.2.2.2.2.2.2.2.2.2.2.2.2.2.2.2.2.2.2.2.2.2) fun t_191 =>
  if t_45.2.1 = true then (
  if t_191.2.1 = true then (
  Option.bind (hocketref11_Same.f K t_45.1 t_191.1) fun t_234 =>
  hocketlaw18_GathOnce.J5 K again_121 x_103 t_191 (!t_234))
  else (
  hocketlaw18_GathOnce.J5 K again_121 x_103 t_191 true))
  else (
  hocketlaw18_GathOnce.J5 K again_121 x_103 t_191 false))
def hocketlaw18_GathOnce.J3 (K : Nat) (x2 : List Int) (x_103 : Int) (x_104 : gath_Gather) (t_45 : api_Msg × Bool × Int × Int × Int × (List api_Msg) × Int × Int × Int × Int × Int × Int × Int × Int × Bool × Int × Int × Int × Int × (List UInt8) × Int × Int × (List Int) × (List Int) × Int × Int × Int × Int × Int × (List UInt8) × (List UInt8) × (List UInt8) × Bool) (again_121 : Int × gath_Gather → Option (Unit)) (ex_121 : Unit → Option (Unit)) (x_126 : Bool) : Option (Unit) :=
  if x_126 = true then (
  Option.bind (ix x2 x_103) fun t_131 =>
  Option.bind (gath_Gather_Take.f x_104.n x_104.id x_104.v x_104.l x_104.come x_104.ready x_104.commit.Kind x_104.commit.From x_104.commit.To x_104.commit.View x_104.commit.Inst x_104.commit.Len x_104.commit.Has x_104.commit.Members x_104.commit.Source x_104.commit.At x_104.commit.Total x_104.commit.Data x_104.commit.Hop x_104.commit.Seq x_104.commit.Have x_104.commit.Need x_104.commit.Index x_104.commit.Entry.Sess x_104.commit.Entry.Seq x_104.commit.Entry.Cmd.Kind x_104.commit.Entry.Cmd.Who x_104.commit.Entry.Cmd.Key x_104.commit.Entry.Cmd.Val x_104.commit.Entry.Cmd.Old x_104.is (⟨2, band .i64 t_131 7, 0, 8, 800, 99, true, 0, 0, 0, 0, ([] : List UInt8), 0, 0, ([] : List Int), ([] : List Int), 0, (⟨0, 0, (⟨0, 0, ([] : List UInt8), ([] : List UInt8), ([] : List UInt8)⟩ : api_Cmd)⟩ : api_Entry)⟩ : api_Msg)) fun t_140 =>
  if t_140.1 = true then (
  hocketlaw18_GathOnce.J4 K x2 x_103 t_140 t_45 again_121 t_45.2.1)
  else (
  hocketlaw18_GathOnce.J4 K x2 x_103 t_140 t_45 again_121 false))
  else (
  ex_121 ())
def hocketlaw18_GathOnce.B1 (K : Nat) (x2 : List Int) (t_45 : api_Msg × Bool × Int × Int × Int × (List api_Msg) × Int × Int × Int × Int × Int × Int × Int × Int × Bool × Int × Int × Int × Int × (List UInt8) × Int × Int × (List Int) × (List Int) × Int × Int × Int × Int × Int × (List UInt8) × (List UInt8) × (List UInt8) × Bool) (ex_121 : Unit → Option (Unit)) (again_121 : Int × gath_Gather → Option (Unit)) (x_103 : Int) (x_104 : gath_Gather) : Option (Unit) :=
  if x_103 < (x2.length : Int) then (
  hocketlaw18_GathOnce.J3 K x2 x_103 x_104 t_45 again_121 ex_121 (decide (x_103 < 10)))
  else (
  hocketlaw18_GathOnce.J3 K x2 x_103 x_104 t_45 again_121 ex_121 false)
def hocketlaw18_GathOnce.L1 (K : Nat) (x2 : List Int) (t_45 : api_Msg × Bool × Int × Int × Int × (List api_Msg) × Int × Int × Int × Int × Int × Int × Int × Int × Bool × Int × Int × Int × Int × (List UInt8) × Int × Int × (List Int) × (List Int) × Int × Int × Int × Int × Int × (List UInt8) × (List UInt8) × (List UInt8) × Bool) (ex_121 : Unit → Option (Unit)) : Nat → Int × gath_Gather → Option (Unit) :=
  iter fun again v => hocketlaw18_GathOnce.B1 K x2 t_45 ex_121 again v.1 v.2
def hocketlaw18_GathOnce.J1 (K : Nat) (x2 : List Int) (x0 : Int) (x_25 : Int) (x_26 : gath_Gather) : Option (Unit) :=
  Option.bind (gath_Gather_Commit.f K x_26.n x_26.id x_26.v x_26.l x_26.come x_26.ready x_26.commit.Kind x_26.commit.From x_26.commit.To x_26.commit.View x_26.commit.Inst x_26.commit.Len x_26.commit.Has x_26.commit.Members x_26.commit.Source x_26.commit.At x_26.commit.Total x_26.commit.Data x_26.commit.Hop x_26.commit.Seq x_26.commit.Have x_26.commit.Need x_26.commit.Index x_26.commit.Entry.Sess x_26.commit.Entry.Seq x_26.commit.Entry.Cmd.Kind x_26.commit.Entry.Cmd.Who x_26.commit.Entry.Cmd.Key x_26.commit.Entry.Cmd.Val x_26.commit.Entry.Cmd.Old x_26.is) fun t_45 =>
  hocketlaw18_GathOnce.L1 K x2 t_45 (fun v => hocketlaw18_GathOnce.J2 K t_45 x_25 x0) K (0, (⟨t_45.2.2.1, t_45.2.2.2.1, t_45.2.2.2.2.1, t_45.2.2.2.2.2.1, t_45.2.2.2.2.2.2.1, t_45.2.2.2.2.2.2.2.1, (⟨t_45.2.2.2.2.2.2.2.2.1, t_45.2.2.2.2.2.2.2.2.2.1, t_45.2.2.2.2.2.2.2.2.2.2.1, t_45.2.2.2.2.2.2.2.2.2.2.2.1, t_45.2.2.2.2.2.2.2.2.2.2.2.2.1, t_45.2.2.2.2.2.2.2.2.2.2.2.2.2.1, t_45.2.2.2.2.2.2.2.2.2.2.2.2.2.2.1, t_45.2.2.2.2.2.2.2.2.2.2.2.2.2.2.2.1, t_45.2.2.2.2.2.2.2.2.2.2.2.2.2.2.2.2.1, t_45.2.2.2.2.2.2.2.2.2.2.2.2.2.2.2.2.2.1, t_45.2.2.2.2.2.2.2.2.2.2.2.2.2.2.2.2.2.2.1, t_45.2.2.2.2.2.2.2.2.2.2.2.2.2.2.2.2.2.2.2.1, t_45.2.2.2.2.2.2.2.2.2.2.2.2.2.2.2.2.2.2.2.2.1, t_45.2.2.2.2.2.2.2.2.2.2.2.2.2.2.2.2.2.2.2.2.2.1, t_45.2.2.2.2.2.2.2.2.2.2.2.2.2.2.2.2.2.2.2.2.2.2.1, t_45.2.2.2.2.2.2.2.2.2.2.2.2.2.2.2.2.2.2.2.2.2.2.2.1, t_45.2.2.2.2.2.2.2.2.2.2.2.2.2.2.2.2.2.2.2.2.2.2.2.2.1, (⟨t_45.2.2.2.2.2.2.2.2.2.2.2.2.2.2.2.2.2.2.2.2.2.2.2.2.2.1, t_45.2.2.2.2.2.2.2.2.2.2.2.2.2.2.2.2.2.2.2.2.2.2.2.2.2.2.1, (⟨t_45.2.2.2.2.2.2.2.2.2.2.2.2.2.2.2.2.2.2.2.2.2.2.2.2.2.2.2.1, t_45.2.2.2.2.2.2.2.2.2.2.2.2.2.2.2.2.2.2.2.2.2.2.2.2.2.2.2.2.1, t_45.2.2.2.2.2.2.2.2.2.2.2.2.2.2.2.2.2.2.2.2.2.2.2.2.2.2.2.2.2.1, t_45.2.2.2.2.2.2.2.2.2.2.2.2.2.2.2.2.2.2.2.2.2.2.2.2.2.2.2.2.2.2.1, t_45.2.2.2.2.2.2.2.2.2.2.2.2.2.2.2.2.2.2.2.2.2.2.2.2.2.2.2.2.2.2.2.1⟩ : api_Cmd)⟩ : api_Entry)⟩ : api_Msg), t_45.2.2.2.2.2.2.2.2.2.2.2.2.2.2.2.2.2.2.2.2.2.2.2.2.2.2.2.2.2.2.2.2⟩ : gath_Gather))
def hocketlaw18_GathOnce.J6 (K : Nat) (x1 : List Int) (x_242 : Int) (x_243 : gath_Gather) (again_260 : Int × Int × gath_Gather → Option (Unit)) (x_241 : Int) (ex_260 : Int × gath_Gather → Option (Unit)) (x_265 : Bool) : Option (Unit) :=
  if x_265 = true then (
  Option.bind (ix x1 x_242) fun t_272 =>
  Option.bind (ix x1 x_242) fun t_277 =>
  Option.bind (ix x1 x_242) fun t_282 =>
  Option.bind (ix x1 x_242) fun t_287 =>
  Option.bind (gath_Gather_Take.f x_243.n x_243.id x_243.v x_243.l x_243.come x_243.ready x_243.commit.Kind x_243.commit.From x_243.commit.To x_243.commit.View x_243.commit.Inst x_243.commit.Len x_243.commit.Has x_243.commit.Members x_243.commit.Source x_243.commit.At x_243.commit.Total x_243.commit.Data x_243.commit.Hop x_243.commit.Seq x_243.commit.Have x_243.commit.Need x_243.commit.Index x_243.commit.Entry.Sess x_243.commit.Entry.Seq x_243.commit.Entry.Cmd.Kind x_243.commit.Entry.Cmd.Who x_243.commit.Entry.Cmd.Key x_243.commit.Entry.Cmd.Val x_243.commit.Entry.Cmd.Old x_243.is (⟨2, band .i64 t_272 7, 0, 8, w64 ((band .i64 (shr .i64 t_277 3) 3) * 8), band .i64 (shr .i64 t_282 5) 31, ((band .i64 (shr .i64 t_287 10) 1) == 1), 0, 0, 0, 0, ([] : List UInt8), 0, 0, ([] : List Int), ([] : List Int), 0, (⟨0, 0, (⟨0, 0, ([] : List UInt8), ([] : List UInt8), ([] : List UInt8)⟩ : api_Cmd)⟩ : api_Entry)⟩ : api_Msg)) fun t_295 =>
  if t_295.1 = true then (
  again_260 (bor .i64 x_241 (shl .i64 1 (wu64 (band .i64 t_272 7))), w64 (x_242 + 1), (⟨t_295.2.1, t_295.2.2.1, t_295.2.2.2.1, t_295.2.2.2.2.1, t_295.2.2.2.2.2.1, t_295.2.2.2.2.2.2.1, (⟨t_295.2.2.2.2.2.2.2.1, t_295.2.2.2.2.2.2.2.2.1, t_295.2.2.2.2.2.2.2.2.2.1, t_295.2.2.2.2.2.2.2.2.2.2.1, t_295.2.2.2.2.2.2.2.2.2.2.2.1, t_295.2.2.2.2.2.2.2.2.2.2.2.2.1, t_295.2.2.2.2.2.2.2.2.2.2.2.2.2.1, t_295.2.2.2.2.2.2.2.2.2.2.2.2.2.2.1, t_295.2.2.2.2.2.2.2.2.2.2.2.2.2.2.2.1, t_295.2.2.2.2.2.2.2.2.2.2.2.2.2.2.2.2.1, t_295.2.2.2.2.2.2.2.2.2.2.2.2.2.2.2.2.2.1, t_295.2.2.2.2.2.2.2.2.2.2.2.2.2.2.2.2.2.2.1, t_295.2.2.2.2.2.2.2.2.2.2.2.2.2.2.2.2.2.2.2.1, t_295.2.2.2.2.2.2.2.2.2.2.2.2.2.2.2.2.2.2.2.2.1, t_295.2.2.2.2.2.2.2.2.2.2.2.2.2.2.2.2.2.2.2.2.2.1, t_295.2.2.2.2.2.2.2.2.2.2.2.2.2.2.2.2.2.2.2.2.2.2.1, t_295.2.2.2.2.2.2.2.2.2.2.2.2.2.2.2.2.2.2.2.2.2.2.2.1, (⟨t_295.2.2.2.2.2.2.2.2.2.2.2.2.2.2.2.2.2.2.2.2.2.2.2.2.1, t_295.2.2.2.2.2.2.2.2.2.2.2.2.2.2.2.2.2.2.2.2.2.2.2.2.2.1, (⟨t_295.2.2.2.2.2.2.2.2.2.2.2.2.2.2.2.2.2.2.2.2.2.2.2.2.2.2.1, t_295.2.2.2.2.2.2.2.2.2.2.2.2.2.2.2.2.2.2.2.2.2.2.2.2.2.2.2.1, t_295.2.2.2.2.2.2.2.2.2.2.2.2.2.2.2.2.2.2.2.2.2.2.2.2.2.2.2.2.1, t_295.2.2.2.2.2.2.2.2.2.2.2.2.2.2.2.2.2.2.2.2.2.2.2.2.2.2.2.2.2.1, t_295.2.2.2.2.2.2.2.2.2.2.2.2.2.2.2.2.2.2.2.2.2.2.2.2.2.2.2.2.2.2.1⟩ : api_Cmd)⟩ : api_Entry)⟩ : api_Msg), t_295.2.2.2.2.2.2.2.2.2.2.2.2.2.2.2.2.2.2.2.2.2.2.2.2.2.2.2.2.2.2.2⟩ : gath_Gather)))
  else (
  again_260 (x_241, w64 (x_242 + 1), (⟨t_295.2.1, t_295.2.2.1, t_295.2.2.2.1, t_295.2.2.2.2.1, t_295.2.2.2.2.2.1, t_295.2.2.2.2.2.2.1, (⟨t_295.2.2.2.2.2.2.2.1, t_295.2.2.2.2.2.2.2.2.1, t_295.2.2.2.2.2.2.2.2.2.1, t_295.2.2.2.2.2.2.2.2.2.2.1, t_295.2.2.2.2.2.2.2.2.2.2.2.1, t_295.2.2.2.2.2.2.2.2.2.2.2.2.1, t_295.2.2.2.2.2.2.2.2.2.2.2.2.2.1, t_295.2.2.2.2.2.2.2.2.2.2.2.2.2.2.1, t_295.2.2.2.2.2.2.2.2.2.2.2.2.2.2.2.1, t_295.2.2.2.2.2.2.2.2.2.2.2.2.2.2.2.2.1, t_295.2.2.2.2.2.2.2.2.2.2.2.2.2.2.2.2.2.1, t_295.2.2.2.2.2.2.2.2.2.2.2.2.2.2.2.2.2.2.1, t_295.2.2.2.2.2.2.2.2.2.2.2.2.2.2.2.2.2.2.2.1, t_295.2.2.2.2.2.2.2.2.2.2.2.2.2.2.2.2.2.2.2.2.1, t_295.2.2.2.2.2.2.2.2.2.2.2.2.2.2.2.2.2.2.2.2.2.1, t_295.2.2.2.2.2.2.2.2.2.2.2.2.2.2.2.2.2.2.2.2.2.2.1, t_295.2.2.2.2.2.2.2.2.2.2.2.2.2.2.2.2.2.2.2.2.2.2.2.1, (⟨t_295.2.2.2.2.2.2.2.2.2.2.2.2.2.2.2.2.2.2.2.2.2.2.2.2.1, t_295.2.2.2.2.2.2.2.2.2.2.2.2.2.2.2.2.2.2.2.2.2.2.2.2.2.1, (⟨t_295.2.2.2.2.2.2.2.2.2.2.2.2.2.2.2.2.2.2.2.2.2.2.2.2.2.2.1, t_295.2.2.2.2.2.2.2.2.2.2.2.2.2.2.2.2.2.2.2.2.2.2.2.2.2.2.2.1, t_295.2.2.2.2.2.2.2.2.2.2.2.2.2.2.2.2.2.2.2.2.2.2.2.2.2.2.2.2.1, t_295.2.2.2.2.2.2.2.2.2.2.2.2.2.2.2.2.2.2.2.2.2.2.2.2.2.2.2.2.2.1, t_295.2.2.2.2.2.2.2.2.2.2.2.2.2.2.2.2.2.2.2.2.2.2.2.2.2.2.2.2.2.2.1⟩ : api_Cmd)⟩ : api_Entry)⟩ : api_Msg), t_295.2.2.2.2.2.2.2.2.2.2.2.2.2.2.2.2.2.2.2.2.2.2.2.2.2.2.2.2.2.2.2⟩ : gath_Gather))))
  else (
  ex_260 (x_241, x_243))
def hocketlaw18_GathOnce.B2 (K : Nat) (x1 : List Int) (ex_260 : Int × gath_Gather → Option (Unit)) (again_260 : Int × Int × gath_Gather → Option (Unit)) (x_241 : Int) (x_242 : Int) (x_243 : gath_Gather) : Option (Unit) :=
  if x_242 < (x1.length : Int) then (
  hocketlaw18_GathOnce.J6 K x1 x_242 x_243 again_260 x_241 ex_260 (decide (x_242 < 10)))
  else (
  hocketlaw18_GathOnce.J6 K x1 x_242 x_243 again_260 x_241 ex_260 false)
def hocketlaw18_GathOnce.L2 (K : Nat) (x1 : List Int) (ex_260 : Int × gath_Gather → Option (Unit)) : Nat → Int × Int × gath_Gather → Option (Unit) :=
  iter fun again v => hocketlaw18_GathOnce.B2 K x1 ex_260 again v.1 v.2.1 v.2.2
def hocketlaw18_GathOnce.f (K : Nat) (x0 : Int) (x1 : List Int) (x2 : List Int) : Option (Unit) :=
  Option.bind (gath_New.f (w64 ((Int.tmod (band .i64 x0 255) 7) + 1)) 0 8 (⟨2, 0, 0, 8, 0, 0, true, 0, 0, 0, 0, ([] : List UInt8), 0, 0, ([] : List Int), ([] : List Int), 0, (⟨0, 0, (⟨0, 0, ([] : List UInt8), ([] : List UInt8), ([] : List UInt8)⟩ : api_Cmd)⟩ : api_Entry)⟩ : api_Msg)) fun t_1 =>
  hocketlaw18_GathOnce.L2 K x1 (fun v => hocketlaw18_GathOnce.J1 K x2 x0 v.1 v.2) K (1, 0, (⟨t_1.1, t_1.2.1, t_1.2.2.1, t_1.2.2.2.1, t_1.2.2.2.2.1, t_1.2.2.2.2.2.1, (⟨t_1.2.2.2.2.2.2.1, t_1.2.2.2.2.2.2.2.1, t_1.2.2.2.2.2.2.2.2.1, t_1.2.2.2.2.2.2.2.2.2.1, t_1.2.2.2.2.2.2.2.2.2.2.1, t_1.2.2.2.2.2.2.2.2.2.2.2.1, t_1.2.2.2.2.2.2.2.2.2.2.2.2.1, t_1.2.2.2.2.2.2.2.2.2.2.2.2.2.1, t_1.2.2.2.2.2.2.2.2.2.2.2.2.2.2.1, t_1.2.2.2.2.2.2.2.2.2.2.2.2.2.2.2.1, t_1.2.2.2.2.2.2.2.2.2.2.2.2.2.2.2.2.1, t_1.2.2.2.2.2.2.2.2.2.2.2.2.2.2.2.2.2.1, t_1.2.2.2.2.2.2.2.2.2.2.2.2.2.2.2.2.2.2.1, t_1.2.2.2.2.2.2.2.2.2.2.2.2.2.2.2.2.2.2.2.1, t_1.2.2.2.2.2.2.2.2.2.2.2.2.2.2.2.2.2.2.2.2.1, t_1.2.2.2.2.2.2.2.2.2.2.2.2.2.2.2.2.2.2.2.2.2.1, t_1.2.2.2.2.2.2.2.2.2.2.2.2.2.2.2.2.2.2.2.2.2.2.1, (⟨t_1.2.2.2.2.2.2.2.2.2.2.2.2.2.2.2.2.2.2.2.2.2.2.2.1, t_1.2.2.2.2.2.2.2.2.2.2.2.2.2.2.2.2.2.2.2.2.2.2.2.2.1, (⟨t_1.2.2.2.2.2.2.2.2.2.2.2.2.2.2.2.2.2.2.2.2.2.2.2.2.2.1, t_1.2.2.2.2.2.2.2.2.2.2.2.2.2.2.2.2.2.2.2.2.2.2.2.2.2.2.1, t_1.2.2.2.2.2.2.2.2.2.2.2.2.2.2.2.2.2.2.2.2.2.2.2.2.2.2.2.1, t_1.2.2.2.2.2.2.2.2.2.2.2.2.2.2.2.2.2.2.2.2.2.2.2.2.2.2.2.2.1, t_1.2.2.2.2.2.2.2.2.2.2.2.2.2.2.2.2.2.2.2.2.2.2.2.2.2.2.2.2.2.1⟩ : api_Cmd)⟩ : api_Entry)⟩ : api_Msg), t_1.2.2.2.2.2.2.2.2.2.2.2.2.2.2.2.2.2.2.2.2.2.2.2.2.2.2.2.2.2.2⟩ : gath_Gather))
end Go.Gp
