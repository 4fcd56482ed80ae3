/- The functions that the law reaches, told plainly. -/
import Derived.Test.YtdfhpaojkmnnfaaLa
namespace Go.Gp
set_option linter.unusedVariables false
structure api_Cmd where
  Kind : Int
  Who : Int
  Key : List UInt8
  Val : List UInt8
  Old : List UInt8
  deriving DecidableEq
structure api_Entry where
  Sess : Int
  Seq : Int
  Cmd : api_Cmd
  deriving DecidableEq
structure api_Msg where
  Kind : Int
  From : Int
  To : Int
  View : Int
  Inst : Int
  Len : Int
  Has : Bool
  Members : Int
  Source : Int
  At : Int
  Total : Int
  Data : List UInt8
  Hop : Int
  Seq : Int
  Have : List Int
  Need : List Int
  Index : Int
  Entry : api_Entry
  deriving DecidableEq
structure gath_Gather where
  n : Int
  id : Int
  v : Int
  l : List api_Msg
  come : Int
  ready : Int
  commit : api_Msg
  is : Bool
  deriving DecidableEq
structure hocketref15_Gather where
  n : Int
  id : Int
  v : Int
  l : List api_Msg
  commit : api_Msg
  sure : Bool
  ready : Int
  deriving DecidableEq
def ok_api_Cmd (x : api_Cmd) : Prop := i64ok x.Kind ∧ i64ok x.Who ∧ (x.Key.length ≤ 140737488351232 ∧ ∀ z ∈ x.Key, True) ∧ (x.Val.length ≤ 140737488351232 ∧ ∀ z ∈ x.Val, True) ∧ (x.Old.length ≤ 140737488351232 ∧ ∀ z ∈ x.Old, True)
def ok_api_Entry (x : api_Entry) : Prop := i64ok x.Sess ∧ i64ok x.Seq ∧ ok_api_Cmd x.Cmd
def ok_api_Msg (x : api_Msg) : Prop := i64ok x.Kind ∧ i64ok x.From ∧ i64ok x.To ∧ i64ok x.View ∧ i64ok x.Inst ∧ i64ok x.Len ∧ True ∧ i64ok x.Members ∧ i64ok x.Source ∧ i64ok x.At ∧ i64ok x.Total ∧ (x.Data.length ≤ 140737488351232 ∧ ∀ z ∈ x.Data, True) ∧ i64ok x.Hop ∧ i64ok x.Seq ∧ (x.Have.length ≤ 140737488351232 ∧ ∀ z ∈ x.Have, i64ok z) ∧ (x.Need.length ≤ 140737488351232 ∧ ∀ z ∈ x.Need, i64ok z) ∧ i64ok x.Index ∧ ok_api_Entry x.Entry
def ok_gath_Gather (x : gath_Gather) : Prop := i64ok x.n ∧ i64ok x.id ∧ i64ok x.v ∧ (x.l.length ≤ 140737488351232 ∧ ∀ z ∈ x.l, ok_api_Msg z) ∧ i64ok x.come ∧ i64ok x.ready ∧ ok_api_Msg x.commit ∧ True
def ok_hocketref15_Gather (x : hocketref15_Gather) : Prop := i64ok x.n ∧ i64ok x.id ∧ i64ok x.v ∧ (x.l.length ≤ 140737488351232 ∧ ∀ z ∈ x.l, ok_api_Msg z) ∧ ok_api_Msg x.commit ∧ True ∧ i64ok x.ready
def gath_New.f (x0 : Int) (x1 : Int) (x2 : Int) (x3 : api_Msg) : Option (Int × Int × Int × (List api_Msg) × Int × Int × Int × Int × Int × Int × Int × Int × Bool × Int × Int × Int × Int × (List UInt8) × Int × Int × (List Int) × (List Int) × Int × Int × Int × Int × Int × (List UInt8) × (List UInt8) × (List UInt8) × Bool) :=
  Option.bind (must (0 ≤ (mn (mx x1 0) (w64 ((mn (mx x0 1) 7) - 1))))) fun u_7 =>
  some (mn (mx x0 1) 7, mn (mx x1 0) (w64 ((mn (mx x0 1) 7) - 1)), x2, ([(⟨2, mn (mx x1 0) (w64 ((mn (mx x0 1) 7) - 1)), x3.To, x3.View, x3.Inst, x3.Len, x3.Has, x3.Members, x3.Source, x3.At, x3.Total, x3.Data, x3.Hop, x3.Seq, x3.Have, x3.Need, x3.Index, x3.Entry⟩ : api_Msg)] : List api_Msg), shl .i64 1 (mn (mx x1 0) (w64 ((mn (mx x0 1) 7) - 1))), 0, 0, 0, 0, 0, 0, 0, false, 0, 0, 0, 0, ([] : List UInt8), 0, 0, ([] : List Int), ([] : List Int), 0, 0, 0, 0, 0, ([] : List UInt8), ([] : List UInt8), ([] : List UInt8), false)

def hocketref15_New.f (x0 : Int) (x1 : Int) (x2 : Int) (x3 : api_Msg) : Option (Int × Int × Int × (List api_Msg) × Int × Int × Int × Int × Int × Int × Bool × Int × Int × Int × Int × (List UInt8) × Int × Int × (List Int) × (List Int) × Int × Int × Int × Int × Int × (List UInt8) × (List UInt8) × (List UInt8) × Bool × Int) :=
  some (mn (mx x0 1) 7, x1, x2, ([(⟨x3.Kind, x1, x3.To, x3.View, x3.Inst, x3.Len, x3.Has, x3.Members, x3.Source, x3.At, x3.Total, x3.Data, x3.Hop, x3.Seq, x3.Have, x3.Need, x3.Index, x3.Entry⟩ : api_Msg)] : List api_Msg), 0, 0, 0, 0, 0, 0, false, 0, 0, 0, 0, ([] : List UInt8), 0, 0, ([] : List Int), ([] : List Int), 0, 0, 0, 0, 0, ([] : List UInt8), ([] : List UInt8), ([] : List UInt8), false, 0)

def hocketlaw7_Keys.f (x0 : Int) : Option ((List UInt8)) :=
  Option.bind (ix ([([] : List UInt8), ([97] : List UInt8), ([98] : List UInt8), ([99] : List UInt8), ([97, 98] : List UInt8), ([97, 98, 99] : List UInt8), ([122] : List UInt8), ([0] : List UInt8), ([255] : List UInt8), ([97, 98, 99, 100, 101, 102, 103, 104] : List UInt8), ([97, 98, 99, 100, 101, 102, 103, 104, 105] : List UInt8), ([107, 49] : List UInt8), ([107, 50] : List UInt8), ([107, 51] : List UInt8), ([107, 52] : List UInt8), ([107, 53] : List UInt8)] : List (List UInt8)) (band .i64 x0 15)) fun t_7 =>
  Option.bind (must (t_7.length ≤ 9223372036854775807)) fun u_12 =>
  some t_7

def hocketlaw8_Cmd.J3 (x0 : Int) (x_23 : api_Cmd) (x_39 : Int) : Option (api_Cmd) :=
  if (band .i64 (shr .i64 x0 19) 31) = 0 then (
  some (⟨band .i64 (shr .i64 x0 24) 31, w64 ((band .i64 (shr .i64 x0 17) 2047) - 20), x_23.Key, x_23.Val, x_23.Old⟩ : api_Cmd))
  else (
  some (⟨x_39, x_23.Who, x_23.Key, x_23.Val, x_23.Old⟩ : api_Cmd))
def hocketlaw8_Cmd.J2 (x0 : Int) (x_23 : api_Cmd) (x_35 : Bool) : Option (api_Cmd) :=
  if x_35 = true then (
  Option.bind (ix ([1, 2, 4, 9] : List Int) (band .i64 (shr .i64 x0 17) 3)) fun t_55 =>
  hocketlaw8_Cmd.J3 x0 x_23 t_55)
  else (
  hocketlaw8_Cmd.J3 x0 x_23 x_23.Kind)
def hocketlaw8_Cmd.J1 (x0 : Int) (x_23 : api_Cmd) : Option (api_Cmd) :=
  if x_23.Kind = 0 then (
  hocketlaw8_Cmd.J2 x0 x_23 true)
  else (
  hocketlaw8_Cmd.J2 x0 x_23 (x_23.Kind == 12))
def hocketlaw8_Cmd.f (x0 : Int) : Option (api_Cmd) :=
  Option.bind (ix ([([] : List UInt8), ([97] : List UInt8), ([98] : List UInt8), ([97, 98] : List UInt8), ([118, 97, 108, 117, 101] : List UInt8), ([48, 49, 50, 51, 52, 53, 54, 55, 56, 57, 97, 98, 99, 100, 101, 102] : List UInt8), ([48, 49, 50, 51, 52, 53, 54, 55, 56, 57, 97, 98, 99, 100, 101, 102, 103] : List UInt8), ([0, 255] : List UInt8)] : List (List UInt8)) (band .i64 (shr .i64 x0 5) 7)) fun t_9 =>
  Option.bind (must (t_9.length ≤ 9223372036854775807)) fun u_14 =>
  Option.bind (hocketlaw7_Keys.f (shr .i64 x0 11)) fun t_63 =>
  Option.bind (ix ([([] : List UInt8), ([97] : List UInt8), ([98] : List UInt8), ([97, 98] : List UInt8)] : List (List UInt8)) (band .i64 (shr .i64 x0 15) 3)) fun t_75 =>
  Option.bind (must (t_75.length ≤ 9223372036854775807)) fun u_80 =>
  hocketlaw8_Cmd.J1 x0 (⟨w64 ((Int.tmod (band .i64 x0 31) 13) + 0), band .i64 (shr .i64 x0 8) 7, t_63, t_9, t_75⟩ : api_Cmd)

def hocketlaw10_Entry.f (x0 : Int) (x1 : Int) : Option (api_Entry) :=
  Option.bind (hocketlaw8_Cmd.f x0) fun t_3 =>
  some (⟨w64 ((Int.tmod (band .i64 (shr .i64 x0 25) 7) 6) + 1), w64 ((w64 ((w64 (Int.tdiv x1 3)) + (band .i64 (shr .i64 x0 28) 1))) + 1), t_3⟩ : api_Entry)

def hocketlaw11_Msg.J1 (K : Nat) (x0 : Int) (x1 : Int) (x_34 : List UInt8) : Option (api_Msg) :=
  some (⟨w64 ((band .i64 x0 7) + 1), Int.tmod (band .i64 (shr .i64 x0 3) 7) 7, Int.tmod (band .i64 (shr .i64 x0 6) 7) 7, band .i64 (shr .i64 x0 9) 1023, 0, 0, false, 0, 0, band .i64 x1 4095, band .i64 (shr .i64 x1 12) 4095, x_34, 0, 0, ([] : List Int), ([] : List Int), 0, (⟨0, 0, (⟨0, 0, ([] : List UInt8), ([] : List UInt8), ([] : List UInt8)⟩ : api_Cmd)⟩ : api_Entry)⟩ : api_Msg)
def hocketlaw11_Msg.B1 (K : Nat) (x1 : Int) (ex_51 : (List UInt8) → Option (api_Msg)) (again_51 : Int × (List UInt8) → Option (api_Msg)) (x_45 : Int) (x_46 : List UInt8) : Option (api_Msg) :=
  if x_45 < (band .i64 (shr .i64 x1 24) 63) then (
  Option.bind (app 140737488355328 x_46 ([toU8 (shr .i64 x1 (wu64 (band .i64 x_45 15)))] : List UInt8)) fun t_62 =>
  again_51 (w64 (x_45 + 1), t_62))
  else (
  ex_51 x_46)
def hocketlaw11_Msg.L1 (K : Nat) (x1 : Int) (ex_51 : (List UInt8) → Option (api_Msg)) : Nat → Int × (List UInt8) → Option (api_Msg) :=
  iter fun again v => hocketlaw11_Msg.B1 K x1 ex_51 again v.1 v.2
def hocketlaw11_Msg.J3 (K : Nat) (x0 : Int) (x1 : Int) (x_74 : List Int) (x_83 : List Int) : Option (api_Msg) :=
  some (⟨w64 ((band .i64 x0 7) + 1), Int.tmod (band .i64 (shr .i64 x0 3) 7) 7, Int.tmod (band .i64 (shr .i64 x0 6) 7) 7, band .i64 (shr .i64 x0 9) 1023, 0, 0, false, 0, 0, 0, 0, ([] : List UInt8), band .i64 x1 1023, band .i64 (shr .i64 x1 10) 255, x_74, x_83, 0, (⟨0, 0, (⟨0, 0, ([] : List UInt8), ([] : List UInt8), ([] : List UInt8)⟩ : api_Cmd)⟩ : api_Entry)⟩ : api_Msg)
def hocketlaw11_Msg.B2 (K : Nat) (x1 : Int) (ex_99 : (List Int) → Option (api_Msg)) (again_99 : Int × (List Int) → Option (api_Msg)) (x_93 : Int) (x_94 : List Int) : Option (api_Msg) :=
  if x_93 < (band .i64 (shr .i64 x1 21) 7) then (
  Option.bind (app 17592186044416 x_94 ([band .i64 (shr .i64 x1 (wu64 (w64 (x_93 + 3)))) 63] : List Int)) fun t_110 =>
  again_99 (w64 (x_93 + 1), t_110))
  else (
  ex_99 x_94)
def hocketlaw11_Msg.L2 (K : Nat) (x1 : Int) (ex_99 : (List Int) → Option (api_Msg)) : Nat → Int × (List Int) → Option (api_Msg) :=
  iter fun again v => hocketlaw11_Msg.B2 K x1 ex_99 again v.1 v.2
def hocketlaw11_Msg.J2 (K : Nat) (x1 : Int) (x0 : Int) (x_74 : List Int) : Option (api_Msg) :=
  hocketlaw11_Msg.L2 K x1 (fun v => hocketlaw11_Msg.J3 K x0 x1 x_74 v) K (0, ([] : List Int))
def hocketlaw11_Msg.B3 (K : Nat) (x1 : Int) (ex_124 : (List Int) → Option (api_Msg)) (again_124 : Int × (List Int) → Option (api_Msg)) (x_118 : Int) (x_119 : List Int) : Option (api_Msg) :=
  if x_118 < (band .i64 (shr .i64 x1 18) 7) then (
  Option.bind (app 17592186044416 x_119 ([band .i64 (shr .i64 x1 (wu64 x_118)) 63] : List Int)) fun t_135 =>
  again_124 (w64 (x_118 + 1), t_135))
  else (
  ex_124 x_119)
def hocketlaw11_Msg.L3 (K : Nat) (x1 : Int) (ex_124 : (List Int) → Option (api_Msg)) : Nat → Int × (List Int) → Option (api_Msg) :=
  iter fun again v => hocketlaw11_Msg.B3 K x1 ex_124 again v.1 v.2
def hocketlaw11_Msg.f (K : Nat) (x0 : Int) (x1 : Int) : Option (api_Msg) :=
  if (w64 ((band .i64 x0 7) + 1)) = 2 then (
  some (⟨w64 ((band .i64 x0 7) + 1), Int.tmod (band .i64 (shr .i64 x0 3) 7) 7, Int.tmod (band .i64 (shr .i64 x0 6) 7) 7, band .i64 (shr .i64 x0 9) 1023, band .i64 x1 255, band .i64 (shr .i64 x1 8) 63, ((band .i64 (shr .i64 x1 14) 1) == 1), 0, 0, 0, 0, ([] : List UInt8), 0, 0, ([] : List Int), ([] : List Int), 0, (⟨0, 0, (⟨0, 0, ([] : List UInt8), ([] : List UInt8), ([] : List UInt8)⟩ : api_Cmd)⟩ : api_Entry)⟩ : api_Msg))
  else (
  if (w64 ((band .i64 x0 7) + 1)) = 3 then (
  some (⟨w64 ((band .i64 x0 7) + 1), Int.tmod (band .i64 (shr .i64 x0 3) 7) 7, Int.tmod (band .i64 (shr .i64 x0 6) 7) 7, band .i64 (shr .i64 x0 9) 1023, 0, band .i64 (shr .i64 x1 10) 63, false, band .i64 x1 127, Int.tmod (band .i64 (shr .i64 x1 7) 7) 7, 0, 0, ([] : List UInt8), 0, 0, ([] : List Int), ([] : List Int), 0, (⟨0, 0, (⟨0, 0, ([] : List UInt8), ([] : List UInt8), ([] : List UInt8)⟩ : api_Cmd)⟩ : api_Entry)⟩ : api_Msg))
  else (
  if (w64 ((band .i64 x0 7) + 1)) = 4 then (
  some (⟨w64 ((band .i64 x0 7) + 1), Int.tmod (band .i64 (shr .i64 x0 3) 7) 7, Int.tmod (band .i64 (shr .i64 x0 6) 7) 7, band .i64 (shr .i64 x0 9) 1023, 0, 0, false, 0, 0, band .i64 x1 4095, 0, ([] : List UInt8), 0, 0, ([] : List Int), ([] : List Int), 0, (⟨0, 0, (⟨0, 0, ([] : List UInt8), ([] : List UInt8), ([] : List UInt8)⟩ : api_Cmd)⟩ : api_Entry)⟩ : api_Msg))
  else (
  if (w64 ((band .i64 x0 7) + 1)) = 5 then (
  hocketlaw11_Msg.L1 K x1 (fun v => hocketlaw11_Msg.J1 K x0 x1 v) K (0, ([] : List UInt8)))
  else (
  if (w64 ((band .i64 x0 7) + 1)) = 7 then (
  hocketlaw11_Msg.L3 K x1 (fun v => hocketlaw11_Msg.J2 K x1 x0 v) K (0, ([] : List Int)))
  else (
  if (w64 ((band .i64 x0 7) + 1)) = 8 then (
  Option.bind (hocketlaw10_Entry.f x0 (band .i64 (shr .i64 x1 10) 63)) fun t_143 =>
  some (⟨w64 ((band .i64 x0 7) + 1), Int.tmod (band .i64 (shr .i64 x0 3) 7) 7, Int.tmod (band .i64 (shr .i64 x0 6) 7) 7, band .i64 (shr .i64 x0 9) 1023, 0, 0, false, 0, 0, 0, 0, ([] : List UInt8), 0, 0, ([] : List Int), ([] : List Int), band .i64 x1 1023, (⟨t_143.Sess, t_143.Seq, (⟨t_143.Cmd.Kind, mx t_143.Cmd.Who 0, t_143.Cmd.Key, t_143.Cmd.Val, t_143.Cmd.Old⟩ : api_Cmd)⟩ : api_Entry)⟩ : api_Msg))
  else (
  some (⟨w64 ((band .i64 x0 7) + 1), Int.tmod (band .i64 (shr .i64 x0 3) 7) 7, Int.tmod (band .i64 (shr .i64 x0 6) 7) 7, band .i64 (shr .i64 x0 9) 1023, 0, 0, false, 0, 0, 0, 0, ([] : List UInt8), 0, 0, ([] : List Int), ([] : List Int), 0, (⟨0, 0, (⟨0, 0, ([] : List UInt8), ([] : List UInt8), ([] : List UInt8)⟩ : api_Cmd)⟩ : api_Entry)⟩ : api_Msg)))))))

def gath_Gather_Take.J1 (x0_n : Int) (x0_id : Int) (x0_v : Int) (x0_l : List api_Msg) (x0_come : Int) (x0_ready : Int) (x0_commit_Kind : Int) (x0_commit_From : Int) (x0_commit_To : Int) (x0_commit_View : Int) (x0_commit_Inst : Int) (x0_commit_Len : Int) (x0_commit_Has : Bool) (x0_commit_Members : Int) (x0_commit_Source : Int) (x0_commit_At : Int) (x0_commit_Total : Int) (x0_commit_Data : List UInt8) (x0_commit_Hop : Int) (x0_commit_Seq : Int) (x0_commit_Have : List Int) (x0_commit_Need : List Int) (x0_commit_Index : Int) (x0_commit_Entry_Sess : Int) (x0_commit_Entry_Seq : Int) (x0_commit_Entry_Cmd_Kind : Int) (x0_commit_Entry_Cmd_Who : Int) (x0_commit_Entry_Cmd_Key : List UInt8) (x0_commit_Entry_Cmd_Val : List UInt8) (x0_commit_Entry_Cmd_Old : List UInt8) (x0_is : Bool) (x1 : api_Msg) (x_6 : Bool) : Option (Bool × Int × Int × Int × (List api_Msg) × Int × Int × Int × Int × Int × Int × Int × Int × Bool × Int × Int × Int × Int × (List UInt8) × Int × Int × (List Int) × (List Int) × Int × Int × Int × Int × Int × (List UInt8) × (List UInt8) × (List UInt8) × Bool) :=
  if x_6 = true then (
  some (false, x0_n, x0_id, x0_v, x0_l, x0_come, x0_ready, x0_commit_Kind, x0_commit_From, x0_commit_To, x0_commit_View, x0_commit_Inst, x0_commit_Len, x0_commit_Has, x0_commit_Members, x0_commit_Source, x0_commit_At, x0_commit_Total, x0_commit_Data, x0_commit_Hop, x0_commit_Seq, x0_commit_Have, x0_commit_Need, x0_commit_Index, x0_commit_Entry_Sess, x0_commit_Entry_Seq, x0_commit_Entry_Cmd_Kind, x0_commit_Entry_Cmd_Who, x0_commit_Entry_Cmd_Key, x0_commit_Entry_Cmd_Val, x0_commit_Entry_Cmd_Old, x0_is))
  else (
  Option.bind (must (0 ≤ x1.From)) fun u_12 =>
  Option.bind (app 488671834567 x0_l ([x1] : List api_Msg)) fun t_22 =>
  some (true, x0_n, x0_id, x0_v, t_22, bor .i64 x0_come (shl .i64 1 x1.From), x0_ready, x0_commit_Kind, x0_commit_From, x0_commit_To, x0_commit_View, x0_commit_Inst, x0_commit_Len, x0_commit_Has, x0_commit_Members, x0_commit_Source, x0_commit_At, x0_commit_Total, x0_commit_Data, x0_commit_Hop, x0_commit_Seq, x0_commit_Have, x0_commit_Need, x0_commit_Index, x0_commit_Entry_Sess, x0_commit_Entry_Seq, x0_commit_Entry_Cmd_Kind, x0_commit_Entry_Cmd_Who, x0_commit_Entry_Cmd_Key, x0_commit_Entry_Cmd_Val, x0_commit_Entry_Cmd_Old, x0_is))
def gath_Gather_Take.f (x0_n : Int) (x0_id : Int) (x0_v : Int) (x0_l : List api_Msg) (x0_come : Int) (x0_ready : Int) (x0_commit_Kind : Int) (x0_commit_From : Int) (x0_commit_To : Int) (x0_commit_View : Int) (x0_commit_Inst : Int) (x0_commit_Len : Int) (x0_commit_Has : Bool) (x0_commit_Members : Int) (x0_commit_Source : Int) (x0_commit_At : Int) (x0_commit_Total : Int) (x0_commit_Data : List UInt8) (x0_commit_Hop : Int) (x0_commit_Seq : Int) (x0_commit_Have : List Int) (x0_commit_Need : List Int) (x0_commit_Index : Int) (x0_commit_Entry_Sess : Int) (x0_commit_Entry_Seq : Int) (x0_commit_Entry_Cmd_Kind : Int) (x0_commit_Entry_Cmd_Who : Int) (x0_commit_Entry_Cmd_Key : List UInt8) (x0_commit_Entry_Cmd_Val : List UInt8) (x0_commit_Entry_Cmd_Old : List UInt8) (x0_is : Bool) (x1 : api_Msg) : Option (Bool × Int × Int × Int × (List api_Msg) × Int × Int × Int × Int × Int × Int × Int × Int × Bool × Int × Int × Int × Int × (List UInt8) × Int × Int × (List Int) × (List Int) × Int × Int × Int × Int × Int × (List UInt8) × (List UInt8) × (List UInt8) × Bool) :=
  if x0_is = true then (
  gath_Gather_Take.J1 x0_n x0_id x0_v x0_l x0_come x0_ready x0_commit_Kind x0_commit_From x0_commit_To x0_commit_View x0_commit_Inst x0_commit_Len x0_commit_Has x0_commit_Members x0_commit_Source x0_commit_At x0_commit_Total x0_commit_Data x0_commit_Hop x0_commit_Seq x0_commit_Have x0_commit_Need x0_commit_Index x0_commit_Entry_Sess x0_commit_Entry_Seq x0_commit_Entry_Cmd_Kind x0_commit_Entry_Cmd_Who x0_commit_Entry_Cmd_Key x0_commit_Entry_Cmd_Val x0_commit_Entry_Cmd_Old x0_is x1 true)
  else (
  if x1.Kind = 2 then (
  if x1.View = x0_v then (
  if x1.From < 0 then (
  gath_Gather_Take.J1 x0_n x0_id x0_v x0_l x0_come x0_ready x0_commit_Kind x0_commit_From x0_commit_To x0_commit_View x0_commit_Inst x0_commit_Len x0_commit_Has x0_commit_Members x0_commit_Source x0_commit_At x0_commit_Total x0_commit_Data x0_commit_Hop x0_commit_Seq x0_commit_Have x0_commit_Need x0_commit_Index x0_commit_Entry_Sess x0_commit_Entry_Seq x0_commit_Entry_Cmd_Kind x0_commit_Entry_Cmd_Who x0_commit_Entry_Cmd_Key x0_commit_Entry_Cmd_Val x0_commit_Entry_Cmd_Old x0_is x1 true)
  else (
  if x1.From ≥ x0_n then (
  gath_Gather_Take.J1 x0_n x0_id x0_v x0_l x0_come x0_ready x0_commit_Kind x0_commit_From x0_commit_To x0_commit_View x0_commit_Inst x0_commit_Len x0_commit_Has x0_commit_Members x0_commit_Source x0_commit_At x0_commit_Total x0_commit_Data x0_commit_Hop x0_commit_Seq x0_commit_Have x0_commit_Need x0_commit_Index x0_commit_Entry_Sess x0_commit_Entry_Seq x0_commit_Entry_Cmd_Kind x0_commit_Entry_Cmd_Who x0_commit_Entry_Cmd_Key x0_commit_Entry_Cmd_Val x0_commit_Entry_Cmd_Old x0_is x1 true)
  else (
  Option.bind (must (0 ≤ x1.From)) fun u_48 =>
  gath_Gather_Take.J1 x0_n x0_id x0_v x0_l x0_come x0_ready x0_commit_Kind x0_commit_From x0_commit_To x0_commit_View x0_commit_Inst x0_commit_Len x0_commit_Has x0_commit_Members x0_commit_Source x0_commit_At x0_commit_Total x0_commit_Data x0_commit_Hop x0_commit_Seq x0_commit_Have x0_commit_Need x0_commit_Index x0_commit_Entry_Sess x0_commit_Entry_Seq x0_commit_Entry_Cmd_Kind x0_commit_Entry_Cmd_Who x0_commit_Entry_Cmd_Key x0_commit_Entry_Cmd_Val x0_commit_Entry_Cmd_Old x0_is x1 ((band .i64 (shr .i64 x0_come x1.From) 1) == 1))))
  else (
  gath_Gather_Take.J1 x0_n x0_id x0_v x0_l x0_come x0_ready x0_commit_Kind x0_commit_From x0_commit_To x0_commit_View x0_commit_Inst x0_commit_Len x0_commit_Has x0_commit_Members x0_commit_Source x0_commit_At x0_commit_Total x0_commit_Data x0_commit_Hop x0_commit_Seq x0_commit_Have x0_commit_Need x0_commit_Index x0_commit_Entry_Sess x0_commit_Entry_Seq x0_commit_Entry_Cmd_Kind x0_commit_Entry_Cmd_Who x0_commit_Entry_Cmd_Key x0_commit_Entry_Cmd_Val x0_commit_Entry_Cmd_Old x0_is x1 true))
  else (
  gath_Gather_Take.J1 x0_n x0_id x0_v x0_l x0_come x0_ready x0_commit_Kind x0_commit_From x0_commit_To x0_commit_View x0_commit_Inst x0_commit_Len x0_commit_Has x0_commit_Members x0_commit_Source x0_commit_At x0_commit_Total x0_commit_Data x0_commit_Hop x0_commit_Seq x0_commit_Have x0_commit_Need x0_commit_Index x0_commit_Entry_Sess x0_commit_Entry_Seq x0_commit_Entry_Cmd_Kind x0_commit_Entry_Cmd_Who x0_commit_Entry_Cmd_Key x0_commit_Entry_Cmd_Val x0_commit_Entry_Cmd_Old x0_is x1 true))

def hocketref15_Gather_has.J1 (K : Nat) : Option (Bool) :=
  some false
def hocketref15_Gather_has.B1 (K : Nat) (x0_l : List api_Msg) (x1 : Int) (ex_7 : Unit → Option (Bool)) (again_7 : Int → Option (Bool)) (x_6 : Int) : Option (Bool) :=
  if x_6 < (x0_l.length : Int) then (
  Option.bind (ix x0_l x_6) fun t_12 =>
  if t_12.From = x1 then (
  some true)
  else (
  again_7 (w64 (x_6 + 1))))
  else (
  ex_7 ())
def hocketref15_Gather_has.L1 (K : Nat) (x0_l : List api_Msg) (x1 : Int) (ex_7 : Unit → Option (Bool)) : Nat → Int → Option (Bool) :=
  iter fun again v => hocketref15_Gather_has.B1 K x0_l x1 ex_7 again v
def hocketref15_Gather_has.f (K : Nat) (x0_n : Int) (x0_id : Int) (x0_v : Int) (x0_l : List api_Msg) (x0_commit_Kind : Int) (x0_commit_From : Int) (x0_commit_To : Int) (x0_commit_View : Int) (x0_commit_Inst : Int) (x0_commit_Len : Int) (x0_commit_Has : Bool) (x0_commit_Members : Int) (x0_commit_Source : Int) (x0_commit_At : Int) (x0_commit_Total : Int) (x0_commit_Data : List UInt8) (x0_commit_Hop : Int) (x0_commit_Seq : Int) (x0_commit_Have : List Int) (x0_commit_Need : List Int) (x0_commit_Index : Int) (x0_commit_Entry_Sess : Int) (x0_commit_Entry_Seq : Int) (x0_commit_Entry_Cmd_Kind : Int) (x0_commit_Entry_Cmd_Who : Int) (x0_commit_Entry_Cmd_Key : List UInt8) (x0_commit_Entry_Cmd_Val : List UInt8) (x0_commit_Entry_Cmd_Old : List UInt8) (x0_sure : Bool) (x0_ready : Int) (x1 : Int) : Option (Bool) :=
  hocketref15_Gather_has.L1 K x0_l x1 (fun v => hocketref15_Gather_has.J1 K) K 0

def hocketref15_Gather_Take.J1 (K : Nat) (x0_n : Int) (x0_id : Int) (x0_v : Int) (x0_l : List api_Msg) (x0_commit_Kind : Int) (x0_commit_From : Int) (x0_commit_To : Int) (x0_commit_View : Int) (x0_commit_Inst : Int) (x0_commit_Len : Int) (x0_commit_Has : Bool) (x0_commit_Members : Int) (x0_commit_Source : Int) (x0_commit_At : Int) (x0_commit_Total : Int) (x0_commit_Data : List UInt8) (x0_commit_Hop : Int) (x0_commit_Seq : Int) (x0_commit_Have : List Int) (x0_commit_Need : List Int) (x0_commit_Index : Int) (x0_commit_Entry_Sess : Int) (x0_commit_Entry_Seq : Int) (x0_commit_Entry_Cmd_Kind : Int) (x0_commit_Entry_Cmd_Who : Int) (x0_commit_Entry_Cmd_Key : List UInt8) (x0_commit_Entry_Cmd_Val : List UInt8) (x0_commit_Entry_Cmd_Old : List UInt8) (x0_sure : Bool) (x0_ready : Int) (x1 : api_Msg) (x_6 : Bool) : Option (Bool × Int × Int × Int × (List api_Msg) × Int × Int × Int × Int × Int × Int × Bool × Int × Int × Int × Int × (List UInt8) × Int × Int × (List Int) × (List Int) × Int × Int × Int × Int × Int × (List UInt8) × (List UInt8) × (List UInt8) × Bool × Int) :=
  if x_6 = true then (
  some (false, x0_n, x0_id, x0_v, x0_l, x0_commit_Kind, x0_commit_From, x0_commit_To, x0_commit_View, x0_commit_Inst, x0_commit_Len, x0_commit_Has, x0_commit_Members, x0_commit_Source, x0_commit_At, x0_commit_Total, x0_commit_Data, x0_commit_Hop, x0_commit_Seq, x0_commit_Have, x0_commit_Need, x0_commit_Index, x0_commit_Entry_Sess, x0_commit_Entry_Seq, x0_commit_Entry_Cmd_Kind, x0_commit_Entry_Cmd_Who, x0_commit_Entry_Cmd_Key, x0_commit_Entry_Cmd_Val, x0_commit_Entry_Cmd_Old, x0_sure, x0_ready))
  else (
  Option.bind (app 488671834567 ([] : List api_Msg) x0_l) fun t_18 =>
  Option.bind (app 488671834567 t_18 ([x1] : List api_Msg)) fun t_30 =>
  some (true, x0_n, x0_id, x0_v, t_30, x0_commit_Kind, x0_commit_From, x0_commit_To, x0_commit_View, x0_commit_Inst, x0_commit_Len, x0_commit_Has, x0_commit_Members, x0_commit_Source, x0_commit_At, x0_commit_Total, x0_commit_Data, x0_commit_Hop, x0_commit_Seq, x0_commit_Have, x0_commit_Need, x0_commit_Index, x0_commit_Entry_Sess, x0_commit_Entry_Seq, x0_commit_Entry_Cmd_Kind, x0_commit_Entry_Cmd_Who, x0_commit_Entry_Cmd_Key, x0_commit_Entry_Cmd_Val, x0_commit_Entry_Cmd_Old, x0_sure, x0_ready))
def hocketref15_Gather_Take.f (K : Nat) (x0_n : Int) (x0_id : Int) (x0_v : Int) (x0_l : List api_Msg) (x0_commit_Kind : Int) (x0_commit_From : Int) (x0_commit_To : Int) (x0_commit_View : Int) (x0_commit_Inst : Int) (x0_commit_Len : Int) (x0_commit_Has : Bool) (x0_commit_Members : Int) (x0_commit_Source : Int) (x0_commit_At : Int) (x0_commit_Total : Int) (x0_commit_Data : List UInt8) (x0_commit_Hop : Int) (x0_commit_Seq : Int) (x0_commit_Have : List Int) (x0_commit_Need : List Int) (x0_commit_Index : Int) (x0_commit_Entry_Sess : Int) (x0_commit_Entry_Seq : Int) (x0_commit_Entry_Cmd_Kind : Int) (x0_commit_Entry_Cmd_Who : Int) (x0_commit_Entry_Cmd_Key : List UInt8) (x0_commit_Entry_Cmd_Val : List UInt8) (x0_commit_Entry_Cmd_Old : List UInt8) (x0_sure : Bool) (x0_ready : Int) (x1 : api_Msg) : Option (Bool × Int × Int × Int × (List api_Msg) × Int × Int × Int × Int × Int × Int × Bool × Int × Int × Int × Int × (List UInt8) × Int × Int × (List Int) × (List Int) × Int × Int × Int × Int × Int × (List UInt8) × (List UInt8) × (List UInt8) × Bool × Int) :=
  if x0_sure = true then (
  hocketref15_Gather_Take.J1 K x0_n x0_id x0_v x0_l x0_commit_Kind x0_commit_From x0_commit_To x0_commit_View x0_commit_Inst x0_commit_Len x0_commit_Has x0_commit_Members x0_commit_Source x0_commit_At x0_commit_Total x0_commit_Data x0_commit_Hop x0_commit_Seq x0_commit_Have x0_commit_Need x0_commit_Index x0_commit_Entry_Sess x0_commit_Entry_Seq x0_commit_Entry_Cmd_Kind x0_commit_Entry_Cmd_Who x0_commit_Entry_Cmd_Key x0_commit_Entry_Cmd_Val x0_commit_Entry_Cmd_Old x0_sure x0_ready x1 true)
  else (
  if x1.Kind = 2 then (
  if x1.View = x0_v then (
  if x1.From < 0 then (
  hocketref15_Gather_Take.J1 K x0_n x0_id x0_v x0_l x0_commit_Kind x0_commit_From x0_commit_To x0_commit_View x0_commit_Inst x0_commit_Len x0_commit_Has x0_commit_Members x0_commit_Source x0_commit_At x0_commit_Total x0_commit_Data x0_commit_Hop x0_commit_Seq x0_commit_Have x0_commit_Need x0_commit_Index x0_commit_Entry_Sess x0_commit_Entry_Seq x0_commit_Entry_Cmd_Kind x0_commit_Entry_Cmd_Who x0_commit_Entry_Cmd_Key x0_commit_Entry_Cmd_Val x0_commit_Entry_Cmd_Old x0_sure x0_ready x1 true)
  else (
  if x1.From ≥ x0_n then (
  hocketref15_Gather_Take.J1 K x0_n x0_id x0_v x0_l x0_commit_Kind x0_commit_From x0_commit_To x0_commit_View x0_commit_Inst x0_commit_Len x0_commit_Has x0_commit_Members x0_commit_Source x0_commit_At x0_commit_Total x0_commit_Data x0_commit_Hop x0_commit_Seq x0_commit_Have x0_commit_Need x0_commit_Index x0_commit_Entry_Sess x0_commit_Entry_Seq x0_commit_Entry_Cmd_Kind x0_commit_Entry_Cmd_Who x0_commit_Entry_Cmd_Key x0_commit_Entry_Cmd_Val x0_commit_Entry_Cmd_Old x0_sure x0_ready x1 true)
  else (
  Option.bind (hocketref15_Gather_has.f K x0_n x0_id x0_v x0_l x0_commit_Kind x0_commit_From x0_commit_To x0_commit_View x0_commit_Inst x0_commit_Len x0_commit_Has x0_commit_Members x0_commit_Source x0_commit_At x0_commit_Total x0_commit_Data x0_commit_Hop x0_commit_Seq x0_commit_Have x0_commit_Need x0_commit_Index x0_commit_Entry_Sess x0_commit_Entry_Seq x0_commit_Entry_Cmd_Kind x0_commit_Entry_Cmd_Who x0_commit_Entry_Cmd_Key x0_commit_Entry_Cmd_Val x0_commit_Entry_Cmd_Old x0_sure x0_ready x1.From) fun t_194 =>
  hocketref15_Gather_Take.J1 K x0_n x0_id x0_v x0_l x0_commit_Kind x0_commit_From x0_commit_To x0_commit_View x0_commit_Inst x0_commit_Len x0_commit_Has x0_commit_Members x0_commit_Source x0_commit_At x0_commit_Total x0_commit_Data x0_commit_Hop x0_commit_Seq x0_commit_Have x0_commit_Need x0_commit_Index x0_commit_Entry_Sess x0_commit_Entry_Seq x0_commit_Entry_Cmd_Kind x0_commit_Entry_Cmd_Who x0_commit_Entry_Cmd_Key x0_commit_Entry_Cmd_Val x0_commit_Entry_Cmd_Old x0_sure x0_ready x1 t_194)))
  else (
  hocketref15_Gather_Take.J1 K x0_n x0_id x0_v x0_l x0_commit_Kind x0_commit_From x0_commit_To x0_commit_View x0_commit_Inst x0_commit_Len x0_commit_Has x0_commit_Members x0_commit_Source x0_commit_At x0_commit_Total x0_commit_Data x0_commit_Hop x0_commit_Seq x0_commit_Have x0_commit_Need x0_commit_Index x0_commit_Entry_Sess x0_commit_Entry_Seq x0_commit_Entry_Cmd_Kind x0_commit_Entry_Cmd_Who x0_commit_Entry_Cmd_Key x0_commit_Entry_Cmd_Val x0_commit_Entry_Cmd_Old x0_sure x0_ready x1 true))
  else (
  hocketref15_Gather_Take.J1 K x0_n x0_id x0_v x0_l x0_commit_Kind x0_commit_From x0_commit_To x0_commit_View x0_commit_Inst x0_commit_Len x0_commit_Has x0_commit_Members x0_commit_Source x0_commit_At x0_commit_Total x0_commit_Data x0_commit_Hop x0_commit_Seq x0_commit_Have x0_commit_Need x0_commit_Index x0_commit_Entry_Sess x0_commit_Entry_Seq x0_commit_Entry_Cmd_Kind x0_commit_Entry_Cmd_Who x0_commit_Entry_Cmd_Key x0_commit_Entry_Cmd_Val x0_commit_Entry_Cmd_Old x0_sure x0_ready x1 true))

def view_firsts.J1 (K : Nat) (x_3 : List api_Msg) : Option ((List api_Msg)) :=
  some x_3
def view_firsts.J2 (K : Nat) (again_18 : (List api_Msg) × Int × Int → Option ((List api_Msg))) (x_11 : List api_Msg) (x_16 : Int) (x_17 : Int) (t_23 : api_Msg) (x_46 : Bool) : Option ((List api_Msg)) :=
  if x_46 = true then (
  again_18 (x_11, x_16, w64 (x_17 + 1)))
  else (
  Option.bind (must (0 ≤ t_23.From)) fun u_50 =>
  Option.bind (app 488671834567 x_11 ([t_23] : List api_Msg)) fun t_57 =>
  again_18 (t_57, bor .i64 x_16 (shl .i64 1 t_23.From), w64 (x_17 + 1)))
def view_firsts.B1 (K : Nat) (x0 : List api_Msg) (x1 : Int) (ex_18 : (List api_Msg) → Option ((List api_Msg))) (again_18 : (List api_Msg) × Int × Int → Option ((List api_Msg))) (x_11 : List api_Msg) (x_16 : Int) (x_17 : Int) : Option ((List api_Msg)) :=
  if x_17 < (x0.length : Int) then (
  Option.bind (ix x0 x_17) fun t_23 =>
  if t_23.Kind = 2 then (
  if t_23.From < 0 then (
  view_firsts.J2 K again_18 x_11 x_16 x_17 t_23 true)
  else (
  if t_23.From ≥ (mn (mx x1 1) 7) then (
  view_firsts.J2 K again_18 x_11 x_16 x_17 t_23 true)
  else (
  Option.bind (must (0 ≤ t_23.From)) fun u_66 =>
  view_firsts.J2 K again_18 x_11 x_16 x_17 t_23 ((band .i64 (shr .i64 x_16 t_23.From) 1) == 1))))
  else (
  view_firsts.J2 K again_18 x_11 x_16 x_17 t_23 true))
  else (
  ex_18 x_11)
def view_firsts.L1 (K : Nat) (x0 : List api_Msg) (x1 : Int) (ex_18 : (List api_Msg) → Option ((List api_Msg))) : Nat → (List api_Msg) × Int × Int → Option ((List api_Msg)) :=
  iter fun again v => view_firsts.B1 K x0 x1 ex_18 again v.1 v.2.1 v.2.2
def view_firsts.f (K : Nat) (x0 : List api_Msg) (x1 : Int) : Option ((List api_Msg)) :=
  view_firsts.L1 K x0 x1 (fun v => view_firsts.J1 K v) K (([] : List api_Msg), 0, 0)

def view_better.f (x0 : api_Msg) (x1 : api_Msg) : Option (Bool) :=
  if x0.Len > x1.Len then (
  some true)
  else (
  if x0.Len = x1.Len then (
  some (decide (x0.From < x1.From)))
  else (
  some false))

def bits_OnesCount64.f (x0 : Int) : Option (Int) :=
  some (band .i64 (w64 (wu64 ((wu64 ((wu64 ((band .u64 (wu64 ((shr .u64 (wu64 ((band .u64 (shr .u64 (wu64 ((band .u64 (shr .u64 x0 1) 6148914691236517205) + (band .u64 x0 6148914691236517205))) 2) 3689348814741910323) + (band .u64 (wu64 ((band .u64 (shr .u64 x0 1) 6148914691236517205) + (band .u64 x0 6148914691236517205))) 3689348814741910323))) 4) + (wu64 ((band .u64 (shr .u64 (wu64 ((band .u64 (shr .u64 x0 1) 6148914691236517205) + (band .u64 x0 6148914691236517205))) 2) 3689348814741910323) + (band .u64 (wu64 ((band .u64 (shr .u64 x0 1) 6148914691236517205) + (band .u64 x0 6148914691236517205))) 3689348814741910323))))) 1085102592571150095) + (shr .u64 (band .u64 (wu64 ((shr .u64 (wu64 ((band .u64 (shr .u64 (wu64 ((band .u64 (shr .u64 x0 1) 6148914691236517205) + (band .u64 x0 6148914691236517205))) 2) 3689348814741910323) + (band .u64 (wu64 ((band .u64 (shr .u64 x0 1) 6148914691236517205) + (band .u64 x0 6148914691236517205))) 3689348814741910323))) 4) + (wu64 ((band .u64 (shr .u64 (wu64 ((band .u64 (shr .u64 x0 1) 6148914691236517205) + (band .u64 x0 6148914691236517205))) 2) 3689348814741910323) + (band .u64 (wu64 ((band .u64 (shr .u64 x0 1) 6148914691236517205) + (band .u64 x0 6148914691236517205))) 3689348814741910323))))) 1085102592571150095) 8))) + (shr .u64 (wu64 ((band .u64 (wu64 ((shr .u64 (wu64 ((band .u64 (shr .u64 (wu64 ((band .u64 (shr .u64 x0 1) 6148914691236517205) + (band .u64 x0 6148914691236517205))) 2) 3689348814741910323) + (band .u64 (wu64 ((band .u64 (shr .u64 x0 1) 6148914691236517205) + (band .u64 x0 6148914691236517205))) 3689348814741910323))) 4) + (wu64 ((band .u64 (shr .u64 (wu64 ((band .u64 (shr .u64 x0 1) 6148914691236517205) + (band .u64 x0 6148914691236517205))) 2) 3689348814741910323) + (band .u64 (wu64 ((band .u64 (shr .u64 x0 1) 6148914691236517205) + (band .u64 x0 6148914691236517205))) 3689348814741910323))))) 1085102592571150095) + (shr .u64 (band .u64 (wu64 ((shr .u64 (wu64 ((band .u64 (shr .u64 (wu64 ((band .u64 (shr .u64 x0 1) 6148914691236517205) + (band .u64 x0 6148914691236517205))) 2) 3689348814741910323) + (band .u64 (wu64 ((band .u64 (shr .u64 x0 1) 6148914691236517205) + (band .u64 x0 6148914691236517205))) 3689348814741910323))) 4) + (wu64 ((band .u64 (shr .u64 (wu64 ((band .u64 (shr .u64 x0 1) 6148914691236517205) + (band .u64 x0 6148914691236517205))) 2) 3689348814741910323) + (band .u64 (wu64 ((band .u64 (shr .u64 x0 1) 6148914691236517205) + (band .u64 x0 6148914691236517205))) 3689348814741910323))))) 1085102592571150095) 8))) 16))) + (shr .u64 (wu64 ((wu64 ((band .u64 (wu64 ((shr .u64 (wu64 ((band .u64 (shr .u64 (wu64 ((band .u64 (shr .u64 x0 1) 6148914691236517205) + (band .u64 x0 6148914691236517205))) 2) 3689348814741910323) + (band .u64 (wu64 ((band .u64 (shr .u64 x0 1) 6148914691236517205) + (band .u64 x0 6148914691236517205))) 3689348814741910323))) 4) + (wu64 ((band .u64 (shr .u64 (wu64 ((band .u64 (shr .u64 x0 1) 6148914691236517205) + (band .u64 x0 6148914691236517205))) 2) 3689348814741910323) + (band .u64 (wu64 ((band .u64 (shr .u64 x0 1) 6148914691236517205) + (band .u64 x0 6148914691236517205))) 3689348814741910323))))) 1085102592571150095) + (shr .u64 (band .u64 (wu64 ((shr .u64 (wu64 ((band .u64 (shr .u64 (wu64 ((band .u64 (shr .u64 x0 1) 6148914691236517205) + (band .u64 x0 6148914691236517205))) 2) 3689348814741910323) + (band .u64 (wu64 ((band .u64 (shr .u64 x0 1) 6148914691236517205) + (band .u64 x0 6148914691236517205))) 3689348814741910323))) 4) + (wu64 ((band .u64 (shr .u64 (wu64 ((band .u64 (shr .u64 x0 1) 6148914691236517205) + (band .u64 x0 6148914691236517205))) 2) 3689348814741910323) + (band .u64 (wu64 ((band .u64 (shr .u64 x0 1) 6148914691236517205) + (band .u64 x0 6148914691236517205))) 3689348814741910323))))) 1085102592571150095) 8))) + (shr .u64 (wu64 ((band .u64 (wu64 ((shr .u64 (wu64 ((band .u64 (shr .u64 (wu64 ((band .u64 (shr .u64 x0 1) 6148914691236517205) + (band .u64 x0 6148914691236517205))) 2) 3689348814741910323) + (band .u64 (wu64 ((band .u64 (shr .u64 x0 1) 6148914691236517205) + (band .u64 x0 6148914691236517205))) 3689348814741910323))) 4) + (wu64 ((band .u64 (shr .u64 (wu64 ((band .u64 (shr .u64 x0 1) 6148914691236517205) + (band .u64 x0 6148914691236517205))) 2) 3689348814741910323) + (band .u64 (wu64 ((band .u64 (shr .u64 x0 1) 6148914691236517205) + (band .u64 x0 6148914691236517205))) 3689348814741910323))))) 1085102592571150095) + (shr .u64 (band .u64 (wu64 ((shr .u64 (wu64 ((band .u64 (shr .u64 (wu64 ((band .u64 (shr .u64 x0 1) 6148914691236517205) + (band .u64 x0 6148914691236517205))) 2) 3689348814741910323) + (band .u64 (wu64 ((band .u64 (shr .u64 x0 1) 6148914691236517205) + (band .u64 x0 6148914691236517205))) 3689348814741910323))) 4) + (wu64 ((band .u64 (shr .u64 (wu64 ((band .u64 (shr .u64 x0 1) 6148914691236517205) + (band .u64 x0 6148914691236517205))) 2) 3689348814741910323) + (band .u64 (wu64 ((band .u64 (shr .u64 x0 1) 6148914691236517205) + (band .u64 x0 6148914691236517205))) 3689348814741910323))))) 1085102592571150095) 8))) 16))) 32)))) 127)

def bits_OnesCount.f (x0 : Int) : Option (Int) :=
  Option.bind (bits_OnesCount64.f x0) fun t_2 =>
  some t_2

def view_Most.f (x0 : Int) (x1 : Int) : Option (Bool) :=
  if x0 ≥ 0 then (
  Option.bind (must (0 ≤ (mn (mx x1 1) 7))) fun u_3 =>
  if x0 < (shl .i64 1 (mn (mx x1 1) 7)) then (
  Option.bind (bits_OnesCount.f (wu64 x0)) fun t_5 =>
  some (decide ((w64 (2 * t_5)) > (mn (mx x1 1) 7))))
  else (
  some false))
  else (
  some false)

def view_Choose.J3 (K : Nat) (x_12 : Int) (x_21 : api_Msg) (x_39 : Bool) : Option (Int × Int × Int × Bool) :=
  if x_39 = true then (
  some (0, 0, 0, false))
  else (
  some (x_12, x_21.From, x_21.Len, true))
def view_Choose.J2 (K : Nat) (x_12 : Int) (x1 : Int) (x_20 : Bool) (x_21 : api_Msg) : Option (Int × Int × Int × Bool) :=
  if x_20 = true then (
  Option.bind (view_Most.f x_12 x1) fun t_46 =>
  view_Choose.J3 K x_12 x_21 (!t_46))
  else (
  view_Choose.J3 K x_12 x_21 true)
def view_Choose.J4 (K : Nat) (again_66 : Bool × Int × api_Msg → Option (Int × Int × Int × Bool)) (x_52 : Int) (t_71 : api_Msg) (x_51 : Bool) (x_53 : api_Msg) (x_93 : Bool) : Option (Int × Int × Int × Bool) :=
  if x_93 = true then (
  again_66 (true, w64 (x_52 + 1), t_71))
  else (
  again_66 (x_51, w64 (x_52 + 1), x_53))
def view_Choose.B1 (K : Nat) (t_1 : (List api_Msg)) (x_13 : Int) (ex_66 : Bool × api_Msg → Option (Int × Int × Int × Bool)) (again_66 : Bool × Int × api_Msg → Option (Int × Int × Int × Bool)) (x_51 : Bool) (x_52 : Int) (x_53 : api_Msg) : Option (Int × Int × Int × Bool) :=
  if x_52 < (t_1.length : Int) then (
  Option.bind (ix t_1 x_52) fun t_71 =>
  if t_71.Has = true then (
  if t_71.Inst = x_13 then (
  if x_51 = true then (
  Option.bind (view_better.f t_71 x_53) fun t_101 =>
  view_Choose.J4 K again_66 x_52 t_71 x_51 x_53 t_101)
  else (
  view_Choose.J4 K again_66 x_52 t_71 x_51 x_53 true))
  else (
  view_Choose.J4 K again_66 x_52 t_71 x_51 x_53 false))
  else (
  view_Choose.J4 K again_66 x_52 t_71 x_51 x_53 false))
  else (
  ex_66 (x_51, x_53))
def view_Choose.L1 (K : Nat) (t_1 : (List api_Msg)) (x_13 : Int) (ex_66 : Bool × api_Msg → Option (Int × Int × Int × Bool)) : Nat → Bool × Int × api_Msg → Option (Int × Int × Int × Bool) :=
  iter fun again v => view_Choose.B1 K t_1 x_13 ex_66 again v.1 v.2.1 v.2.2
def view_Choose.J1 (K : Nat) (t_1 : (List api_Msg)) (x1 : Int) (x_12 : Int) (x_13 : Int) : Option (Int × Int × Int × Bool) :=
  view_Choose.L1 K t_1 x_13 (fun v => view_Choose.J2 K x_12 x1 v.1 v.2) K (false, 0, (⟨0, 0, 0, 0, 0, 0, false, 0, 0, 0, 0, ([] : List UInt8), 0, 0, ([] : List Int), ([] : List Int), 0, (⟨0, 0, (⟨0, 0, ([] : List UInt8), ([] : List UInt8), ([] : List UInt8)⟩ : api_Cmd)⟩ : api_Entry)⟩ : api_Msg))
def view_Choose.J5 (K : Nat) (again_109 : Int × Int × Int → Option (Int × Int × Int × Bool)) (x_106 : Int) (t_114 : api_Msg) (x_108 : Int) (x_107 : Int) (x_137 : Bool) : Option (Int × Int × Int × Bool) :=
  if x_137 = true then (
  again_109 (bor .i64 x_106 (shl .i64 1 t_114.From), t_114.Inst, w64 (x_108 + 1)))
  else (
  again_109 (bor .i64 x_106 (shl .i64 1 t_114.From), x_107, w64 (x_108 + 1)))
def view_Choose.B2 (K : Nat) (t_1 : (List api_Msg)) (ex_109 : Int × Int → Option (Int × Int × Int × Bool)) (again_109 : Int × Int × Int → Option (Int × Int × Int × Bool)) (x_106 : Int) (x_107 : Int) (x_108 : Int) : Option (Int × Int × Int × Bool) :=
  if x_108 < (t_1.length : Int) then (
  Option.bind (ix t_1 x_108) fun t_114 =>
  Option.bind (must (0 ≤ t_114.From)) fun u_134 =>
  if x_108 = 0 then (
  view_Choose.J5 K again_109 x_106 t_114 x_108 x_107 true)
  else (
  view_Choose.J5 K again_109 x_106 t_114 x_108 x_107 (decide (t_114.Inst > x_107))))
  else (
  ex_109 (x_106, x_107))
def view_Choose.L2 (K : Nat) (t_1 : (List api_Msg)) (ex_109 : Int × Int → Option (Int × Int × Int × Bool)) : Nat → Int × Int × Int → Option (Int × Int × Int × Bool) :=
  iter fun again v => view_Choose.B2 K t_1 ex_109 again v.1 v.2.1 v.2.2
def view_Choose.f (K : Nat) (x0 : List api_Msg) (x1 : Int) : Option (Int × Int × Int × Bool) :=
  Option.bind (view_firsts.f K x0 x1) fun t_1 =>
  view_Choose.L2 K t_1 (fun v => view_Choose.J1 K t_1 x1 v.1 v.2) K (0, 0, 0)

def gath_Gather_Commit.J1 (K : Nat) (x0_n : Int) (x0_id : Int) (x0_v : Int) (x0_l : List api_Msg) (x0_come : Int) (x0_ready : Int) (x_5 : Int) (x_6 : Int) (x_7 : Int) (x_8 : Int) (x_9 : Int) (x_10 : Int) (x_11 : Bool) (x_12 : Int) (x_13 : Int) (x_14 : Int) (x_15 : Int) (x_16 : List UInt8) (x_19 : Int) (x_20 : Int) (x_21 : List Int) (x_24 : List Int) (x_27 : Int) (x_28 : Int) (x_29 : Int) (x_30 : Int) (x_31 : Int) (x_32 : List UInt8) (x_35 : List UInt8) (x_38 : List UInt8) (x_41 : Bool) : Option (api_Msg × Bool × Int × Int × Int × (List api_Msg) × Int × Int × Int × Int × Int × Int × Int × Int × Bool × Int × Int × Int × Int × (List UInt8) × Int × Int × (List Int) × (List Int) × Int × Int × Int × Int × Int × (List UInt8) × (List UInt8) × (List UInt8) × Bool) :=
  some ((⟨x_5, x_6, x_7, x_8, x_9, x_10, x_11, x_12, x_13, x_14, x_15, x_16, x_19, x_20, x_21, x_24, x_27, (⟨x_28, x_29, (⟨x_30, x_31, x_32, x_35, x_38⟩ : api_Cmd)⟩ : api_Entry)⟩ : api_Msg), true, x0_n, x0_id, x0_v, x0_l, x0_come, x0_ready, x_5, x_6, x_7, x_8, x_9, x_10, x_11, x_12, x_13, x_14, x_15, x_16, x_19, x_20, x_21, x_24, x_27, x_28, x_29, x_30, x_31, x_32, x_35, x_38, x_41)
def gath_Gather_Commit.f (K : Nat) (x0_n : Int) (x0_id : Int) (x0_v : Int) (x0_l : List api_Msg) (x0_come : Int) (x0_ready : Int) (x0_commit_Kind : Int) (x0_commit_From : Int) (x0_commit_To : Int) (x0_commit_View : Int) (x0_commit_Inst : Int) (x0_commit_Len : Int) (x0_commit_Has : Bool) (x0_commit_Members : Int) (x0_commit_Source : Int) (x0_commit_At : Int) (x0_commit_Total : Int) (x0_commit_Data : List UInt8) (x0_commit_Hop : Int) (x0_commit_Seq : Int) (x0_commit_Have : List Int) (x0_commit_Need : List Int) (x0_commit_Index : Int) (x0_commit_Entry_Sess : Int) (x0_commit_Entry_Seq : Int) (x0_commit_Entry_Cmd_Kind : Int) (x0_commit_Entry_Cmd_Who : Int) (x0_commit_Entry_Cmd_Key : List UInt8) (x0_commit_Entry_Cmd_Val : List UInt8) (x0_commit_Entry_Cmd_Old : List UInt8) (x0_is : Bool) : Option (api_Msg × Bool × Int × Int × Int × (List api_Msg) × Int × Int × Int × Int × Int × Int × Int × Int × Bool × Int × Int × Int × Int × (List UInt8) × Int × Int × (List Int) × (List Int) × Int × Int × Int × Int × Int × (List UInt8) × (List UInt8) × (List UInt8) × Bool) :=
  if x0_is = true then (
  gath_Gather_Commit.J1 K x0_n x0_id x0_v x0_l x0_come x0_ready x0_commit_Kind x0_commit_From x0_commit_To x0_commit_View x0_commit_Inst x0_commit_Len x0_commit_Has x0_commit_Members x0_commit_Source x0_commit_At x0_commit_Total x0_commit_Data x0_commit_Hop x0_commit_Seq x0_commit_Have x0_commit_Need x0_commit_Index x0_commit_Entry_Sess x0_commit_Entry_Seq x0_commit_Entry_Cmd_Kind x0_commit_Entry_Cmd_Who x0_commit_Entry_Cmd_Key x0_commit_Entry_Cmd_Val x0_commit_Entry_Cmd_Old x0_is)
  else (
  Option.bind (view_Choose.f K x0_l x0_n) fun t_48 =>
  if t_48.2.2.2 = true then (
  gath_Gather_Commit.J1 K x0_n x0_id x0_v x0_l x0_come x0_ready 3 x0_id 0 x0_v 0 t_48.2.2.1 false t_48.1 t_48.2.1 0 0 ([] : List UInt8) 0 0 ([] : List Int) ([] : List Int) 0 0 0 0 0 ([] : List UInt8) ([] : List UInt8) ([] : List UInt8) true)
  else (
  some ((⟨0, 0, 0, 0, 0, 0, false, 0, 0, 0, 0, ([] : List UInt8), 0, 0, ([] : List Int), ([] : List Int), 0, (⟨0, 0, (⟨0, 0, ([] : List UInt8), ([] : List UInt8), ([] : List UInt8)⟩ : api_Cmd)⟩ : api_Entry)⟩ : api_Msg), false, x0_n, x0_id, x0_v, x0_l, x0_come, x0_ready, x0_commit_Kind, x0_commit_From, x0_commit_To, x0_commit_View, x0_commit_Inst, x0_commit_Len, x0_commit_Has, x0_commit_Members, x0_commit_Source, x0_commit_At, x0_commit_Total, x0_commit_Data, x0_commit_Hop, x0_commit_Seq, x0_commit_Have, x0_commit_Need, x0_commit_Index, x0_commit_Entry_Sess, x0_commit_Entry_Seq, x0_commit_Entry_Cmd_Kind, x0_commit_Entry_Cmd_Who, x0_commit_Entry_Cmd_Key, x0_commit_Entry_Cmd_Val, x0_commit_Entry_Cmd_Old, x0_is)))

def hocketref11_Members.J1 (K : Nat) (x_3 : List Int) : Option ((List Int)) :=
  some x_3
def hocketref11_Members.B1 (K : Nat) (x0 : Int) (ex_17 : (List Int) → Option ((List Int))) (again_17 : (List Int) × Int → Option ((List Int))) (x_11 : List Int) (x_16 : Int) : Option ((List Int)) :=
  if x_16 < 7 then (
  if (band .i64 (shr .i64 x0 (wu64 x_16)) 1) = 1 then (
  Option.bind (app 17592186044416 x_11 ([x_16] : List Int)) fun t_30 =>
  again_17 (t_30, w64 (x_16 + 1)))
  else (
  again_17 (x_11, w64 (x_16 + 1))))
  else (
  ex_17 x_11)
def hocketref11_Members.L1 (K : Nat) (x0 : Int) (ex_17 : (List Int) → Option ((List Int))) : Nat → (List Int) × Int → Option ((List Int)) :=
  iter fun again v => hocketref11_Members.B1 K x0 ex_17 again v.1 v.2
def hocketref11_Members.f (K : Nat) (x0 : Int) : Option ((List Int)) :=
  hocketref11_Members.L1 K x0 (fun v => hocketref11_Members.J1 K v) K (([] : List Int), 0)

def hocketref11_Most.f (K : Nat) (x0 : Int) (x1 : Int) : Option (Bool) :=
  if (shr .i64 x0 (wu64 (mn (mx x1 1) 7))) = 0 then (
  Option.bind (hocketref11_Members.f K x0) fun t_3 =>
  some (decide ((w64 (2 * (t_3.length : Int))) > (mn (mx x1 1) 7))))
  else (
  some false)

def hocketref11_Choose.J3 (K : Nat) (x_10 : List api_Msg) (x_19 : Int) (x_8 : Int) (x_25 : Bool) : Option (Int × Int × Int × Bool) :=
  if x_25 = true then (
  some (0, 0, 0, false))
  else (
  Option.bind (ix x_10 x_19) fun t_31 =>
  some (x_8, x_19, t_31.Len, true))
def hocketref11_Choose.J2 (K : Nat) (x_10 : List api_Msg) (x_8 : Int) (x1 : Int) (x_19 : Int) : Option (Int × Int × Int × Bool) :=
  if x_19 < 0 then (
  hocketref11_Choose.J3 K x_10 x_19 x_8 true)
  else (
  Option.bind (hocketref11_Most.f K x_8 (mn (mx x1 1) 7)) fun t_49 =>
  hocketref11_Choose.J3 K x_10 x_19 x_8 (!t_49))
def hocketref11_Choose.J4 (K : Nat) (again_56 : Int × Int → Option (Int × Int × Int × Bool)) (x_55 : Int) (x_54 : Int) (x_63 : Bool) : Option (Int × Int × Int × Bool) :=
  if x_63 = true then (
  again_56 (x_55, w64 (x_55 + 1)))
  else (
  again_56 (x_54, w64 (x_55 + 1)))
def hocketref11_Choose.B1 (K : Nat) (x1 : Int) (x_8 : Int) (x_10 : List api_Msg) (x_9 : Int) (ex_56 : Int → Option (Int × Int × Int × Bool)) (again_56 : Int × Int → Option (Int × Int × Int × Bool)) (x_54 : Int) (x_55 : Int) : Option (Int × Int × Int × Bool) :=
  if x_55 < (mn (mx x1 1) 7) then (
  if (band .i64 (shr .i64 x_8 (wu64 x_55)) 1) = 1 then (
  Option.bind (ix x_10 x_55) fun t_69 =>
  if t_69.Has = true then (
  Option.bind (ix x_10 x_55) fun t_87 =>
  if t_87.Inst = x_9 then (
  if x_54 < 0 then (
  hocketref11_Choose.J4 K again_56 x_55 x_54 true)
  else (
  Option.bind (ix x_10 x_55) fun t_106 =>
  Option.bind (ix x_10 x_54) fun t_123 =>
  hocketref11_Choose.J4 K again_56 x_55 x_54 (decide (t_106.Len > t_123.Len))))
  else (
  hocketref11_Choose.J4 K again_56 x_55 x_54 false))
  else (
  hocketref11_Choose.J4 K again_56 x_55 x_54 false))
  else (
  hocketref11_Choose.J4 K again_56 x_55 x_54 false))
  else (
  ex_56 x_54)
def hocketref11_Choose.L1 (K : Nat) (x1 : Int) (x_8 : Int) (x_10 : List api_Msg) (x_9 : Int) (ex_56 : Int → Option (Int × Int × Int × Bool)) : Nat → Int × Int → Option (Int × Int × Int × Bool) :=
  iter fun again v => hocketref11_Choose.B1 K x1 x_8 x_10 x_9 ex_56 again v.1 v.2
def hocketref11_Choose.J1 (K : Nat) (x1 : Int) (x_8 : Int) (x_9 : Int) (x_10 : List api_Msg) : Option (Int × Int × Int × Bool) :=
  hocketref11_Choose.L1 K x1 x_8 x_10 x_9 (fun v => hocketref11_Choose.J2 K x_10 x_8 x1 v) K ((-1), 0)
def hocketref11_Choose.J7 (K : Nat) (x_143 : List api_Msg) (t_153 : api_Msg) (again_149 : Int × Int × (List api_Msg) × Int → Option (Int × Int × Int × Bool)) (x_141 : Int) (x_148 : Int) (x_187 : Int) : Option (Int × Int × Int × Bool) :=
  Option.bind (ix x_143 t_153.From) fun t_190 =>
  again_149 (bor .i64 x_141 (shl .i64 1 (wu64 t_153.From)), x_187, (x_143.set (t_153.From).toNat t_153), w64 (x_148 + 1))
def hocketref11_Choose.J6 (K : Nat) (x_143 : List api_Msg) (t_153 : api_Msg) (again_149 : Int × Int × (List api_Msg) × Int → Option (Int × Int × Int × Bool)) (x_141 : Int) (x_148 : Int) (x_142 : Int) (x_183 : Bool) : Option (Int × Int × Int × Bool) :=
  if x_183 = true then (
  hocketref11_Choose.J7 K x_143 t_153 again_149 x_141 x_148 t_153.Inst)
  else (
  hocketref11_Choose.J7 K x_143 t_153 again_149 x_141 x_148 x_142)
def hocketref11_Choose.J5 (K : Nat) (again_149 : Int × Int × (List api_Msg) × Int → Option (Int × Int × Int × Bool)) (x_141 : Int) (x_142 : Int) (x_143 : List api_Msg) (x_148 : Int) (t_153 : api_Msg) (x_176 : Bool) : Option (Int × Int × Int × Bool) :=
  if x_176 = true then (
  again_149 (x_141, x_142, x_143, w64 (x_148 + 1)))
  else (
  if (bor .i64 x_141 (shl .i64 1 (wu64 t_153.From))) = (shl .i64 1 (wu64 t_153.From)) then (
  hocketref11_Choose.J6 K x_143 t_153 again_149 x_141 x_148 x_142 true)
  else (
  hocketref11_Choose.J6 K x_143 t_153 again_149 x_141 x_148 x_142 (decide (t_153.Inst > x_142))))
def hocketref11_Choose.B2 (K : Nat) (x0 : List api_Msg) (x1 : Int) (ex_149 : Int × Int × (List api_Msg) → Option (Int × Int × Int × Bool)) (again_149 : Int × Int × (List api_Msg) × Int → Option (Int × Int × Int × Bool)) (x_141 : Int) (x_142 : Int) (x_143 : List api_Msg) (x_148 : Int) : Option (Int × Int × Int × Bool) :=
  if x_148 < (x0.length : Int) then (
  Option.bind (ix x0 x_148) fun t_153 =>
  if t_153.Kind = 2 then (
  if t_153.From < 0 then (
  hocketref11_Choose.J5 K again_149 x_141 x_142 x_143 x_148 t_153 true)
  else (
  if t_153.From ≥ (mn (mx x1 1) 7) then (
  hocketref11_Choose.J5 K again_149 x_141 x_142 x_143 x_148 t_153 true)
  else (
  hocketref11_Choose.J5 K again_149 x_141 x_142 x_143 x_148 t_153 ((band .i64 (shr .i64 x_141 (wu64 t_153.From)) 1) == 1))))
  else (
  hocketref11_Choose.J5 K again_149 x_141 x_142 x_143 x_148 t_153 true))
  else (
  ex_149 (x_141, x_142, x_143))
def hocketref11_Choose.L2 (K : Nat) (x0 : List api_Msg) (x1 : Int) (ex_149 : Int × Int × (List api_Msg) → Option (Int × Int × Int × Bool)) : Nat → Int × Int × (List api_Msg) × Int → Option (Int × Int × Int × Bool) :=
  iter fun again v => hocketref11_Choose.B2 K x0 x1 ex_149 again v.1 v.2.1 v.2.2.1 v.2.2.2
def hocketref11_Choose.f (K : Nat) (x0 : List api_Msg) (x1 : Int) : Option (Int × Int × Int × Bool) :=
  hocketref11_Choose.L2 K x0 x1 (fun v => hocketref11_Choose.J1 K x1 v.1 v.2.1 v.2.2) K (0, 0, (List.replicate 7 (⟨0, 0, 0, 0, 0, 0, false, 0, 0, 0, 0, ([] : List UInt8), 0, 0, ([] : List Int), ([] : List Int), 0, (⟨0, 0, (⟨0, 0, ([] : List UInt8), ([] : List UInt8), ([] : List UInt8)⟩ : api_Cmd)⟩ : api_Entry)⟩ : api_Msg)), 0)

def hocketref15_Gather_Commit.J1 (K : Nat) (x0_n : Int) (x0_id : Int) (x0_v : Int) (x0_l : List api_Msg) (x0_ready : Int) (x_5 : Int) (x_6 : Int) (x_7 : Int) (x_8 : Int) (x_9 : Int) (x_10 : Int) (x_11 : Bool) (x_12 : Int) (x_13 : Int) (x_14 : Int) (x_15 : Int) (x_16 : List UInt8) (x_19 : Int) (x_20 : Int) (x_21 : List Int) (x_24 : List Int) (x_27 : Int) (x_28 : Int) (x_29 : Int) (x_30 : Int) (x_31 : Int) (x_32 : List UInt8) (x_35 : List UInt8) (x_38 : List UInt8) (x_41 : Bool) : Option (api_Msg × Bool × Int × Int × Int × (List api_Msg) × Int × Int × Int × Int × Int × Int × Bool × Int × Int × Int × Int × (List UInt8) × Int × Int × (List Int) × (List Int) × Int × Int × Int × Int × Int × (List UInt8) × (List UInt8) × (List UInt8) × Bool × Int) :=
  some ((⟨x_5, x_6, x_7, x_8, x_9, x_10, x_11, x_12, x_13, x_14, x_15, x_16, x_19, x_20, x_21, x_24, x_27, (⟨x_28, x_29, (⟨x_30, x_31, x_32, x_35, x_38⟩ : api_Cmd)⟩ : api_Entry)⟩ : api_Msg), true, x0_n, x0_id, x0_v, x0_l, x_5, x_6, x_7, x_8, x_9, x_10, x_11, x_12, x_13, x_14, x_15, x_16, x_19, x_20, x_21, x_24, x_27, x_28, x_29, x_30, x_31, x_32, x_35, x_38, x_41, x0_ready)
def hocketref15_Gather_Commit.f (K : Nat) (x0_n : Int) (x0_id : Int) (x0_v : Int) (x0_l : List api_Msg) (x0_commit_Kind : Int) (x0_commit_From : Int) (x0_commit_To : Int) (x0_commit_View : Int) (x0_commit_Inst : Int) (x0_commit_Len : Int) (x0_commit_Has : Bool) (x0_commit_Members : Int) (x0_commit_Source : Int) (x0_commit_At : Int) (x0_commit_Total : Int) (x0_commit_Data : List UInt8) (x0_commit_Hop : Int) (x0_commit_Seq : Int) (x0_commit_Have : List Int) (x0_commit_Need : List Int) (x0_commit_Index : Int) (x0_commit_Entry_Sess : Int) (x0_commit_Entry_Seq : Int) (x0_commit_Entry_Cmd_Kind : Int) (x0_commit_Entry_Cmd_Who : Int) (x0_commit_Entry_Cmd_Key : List UInt8) (x0_commit_Entry_Cmd_Val : List UInt8) (x0_commit_Entry_Cmd_Old : List UInt8) (x0_sure : Bool) (x0_ready : Int) : Option (api_Msg × Bool × Int × Int × Int × (List api_Msg) × Int × Int × Int × Int × Int × Int × Bool × Int × Int × Int × Int × (List UInt8) × Int × Int × (List Int) × (List Int) × Int × Int × Int × Int × Int × (List UInt8) × (List UInt8) × (List UInt8) × Bool × Int) :=
  if x0_sure = true then (
  hocketref15_Gather_Commit.J1 K x0_n x0_id x0_v x0_l x0_ready x0_commit_Kind x0_commit_From x0_commit_To x0_commit_View x0_commit_Inst x0_commit_Len x0_commit_Has x0_commit_Members x0_commit_Source x0_commit_At x0_commit_Total x0_commit_Data x0_commit_Hop x0_commit_Seq x0_commit_Have x0_commit_Need x0_commit_Index x0_commit_Entry_Sess x0_commit_Entry_Seq x0_commit_Entry_Cmd_Kind x0_commit_Entry_Cmd_Who x0_commit_Entry_Cmd_Key x0_commit_Entry_Cmd_Val x0_commit_Entry_Cmd_Old x0_sure)
  else (
  Option.bind (hocketref11_Choose.f K x0_l x0_n) fun t_48 =>
  if t_48.2.2.2 = true then (
  hocketref15_Gather_Commit.J1 K x0_n x0_id x0_v x0_l x0_ready 3 x0_id 0 x0_v 0 t_48.2.2.1 false t_48.1 t_48.2.1 0 0 ([] : List UInt8) 0 0 ([] : List Int) ([] : List Int) 0 0 0 0 0 ([] : List UInt8) ([] : List UInt8) ([] : List UInt8) true)
  else (
  some ((⟨0, 0, 0, 0, 0, 0, false, 0, 0, 0, 0, ([] : List UInt8), 0, 0, ([] : List Int), ([] : List Int), 0, (⟨0, 0, (⟨0, 0, ([] : List UInt8), ([] : List UInt8), ([] : List UInt8)⟩ : api_Cmd)⟩ : api_Entry)⟩ : api_Msg), false, x0_n, x0_id, x0_v, x0_l, x0_commit_Kind, x0_commit_From, x0_commit_To, x0_commit_View, x0_commit_Inst, x0_commit_Len, x0_commit_Has, x0_commit_Members, x0_commit_Source, x0_commit_At, x0_commit_Total, x0_commit_Data, x0_commit_Hop, x0_commit_Seq, x0_commit_Have, x0_commit_Need, x0_commit_Index, x0_commit_Entry_Sess, x0_commit_Entry_Seq, x0_commit_Entry_Cmd_Kind, x0_commit_Entry_Cmd_Who, x0_commit_Entry_Cmd_Key, x0_commit_Entry_Cmd_Val, x0_commit_Entry_Cmd_Old, x0_sure, x0_ready)))

def hocketref1_SameInts.J1 (K : Nat) : Option (Bool) :=
  some true
def hocketref1_SameInts.B1 (K : Nat) (x0 : List Int) (x1 : List Int) (ex_9 : Unit → Option (Bool)) (again_9 : Int → Option (Bool)) (x_8 : Int) : Option (Bool) :=
  if x_8 < (x0.length : Int) then (
  Option.bind (ix x0 x_8) fun t_16 =>
  Option.bind (ix x1 x_8) fun t_21 =>
  if t_16 = t_21 then (
  again_9 (w64 (x_8 + 1)))
  else (
  some false))
  else (
  ex_9 ())
def hocketref1_SameInts.L1 (K : Nat) (x0 : List Int) (x1 : List Int) (ex_9 : Unit → Option (Bool)) : Nat → Int → Option (Bool) :=
  iter fun again v => hocketref1_SameInts.B1 K x0 x1 ex_9 again v
def hocketref1_SameInts.f (K : Nat) (x0 : List Int) (x1 : List Int) : Option (Bool) :=
  if (x0.length : Int) = (x1.length : Int) then (
  hocketref1_SameInts.L1 K x0 x1 (fun v => hocketref1_SameInts.J1 K) K 0)
  else (
  some false)

def hocketref4_SameEntry.f (x0 : api_Entry) (x1 : api_Entry) : Option (Bool) :=
  if x0.Sess = x1.Sess then (
  if x0.Seq = x1.Seq then (
  if x0.Cmd.Kind = x1.Cmd.Kind then (
  if x0.Cmd.Who = x1.Cmd.Who then (
  if x0.Cmd.Key = x1.Cmd.Key then (
  if x0.Cmd.Val = x1.Cmd.Val then (
  some (x0.Cmd.Old == x1.Cmd.Old))
  else (
  some false))
  else (
  some false))
  else (
  some false))
  else (
  some false))
  else (
  some false))
  else (
  some false)

def hocketref11_Same.f (K : Nat) (x0 : api_Msg) (x1 : api_Msg) : Option (Bool) :=
  if x0.Kind = x1.Kind then (
  if x0.From = x1.From then (
  if x0.To = x1.To then (
  if x0.View = x1.View then (
  if x0.Inst = x1.Inst then (
  if x0.Len = x1.Len then (
  if x0.Has = x1.Has then (
  if x0.Members = x1.Members then (
  if x0.Source = x1.Source then (
  if x0.At = x1.At then (
  if x0.Total = x1.Total then (
  if x0.Data = x1.Data then (
  if x0.Hop = x1.Hop then (
  if x0.Seq = x1.Seq then (
  Option.bind (hocketref1_SameInts.f K x0.Have x1.Have) fun t_20 =>
  if t_20 = true then (
  Option.bind (hocketref1_SameInts.f K x0.Need x1.Need) fun t_25 =>
  if t_25 = true then (
  if x0.Index = x1.Index then (
  Option.bind (hocketref4_SameEntry.f x0.Entry x1.Entry) fun t_31 =>
  some t_31)
  else (
  some false))
  else (
  some false))
  else (
  some false))
  else (
  some false))
  else (
  some false))
  else (
  some false))
  else (
  some false))
  else (
  some false))
  else (
  some false))
  else (
  some false))
  else (
  some false))
  else (
  some false))
  else (
  some false))
  else (
  some false))
  else (
  some false))
  else (
  some false))
  else (
  some false)

def view_Members.J1 (K : Nat) (x_3 : List Int) : Option ((List Int)) :=
  some x_3
def view_Members.B1 (K : Nat) (x0 : Int) (ex_17 : (List Int) → Option ((List Int))) (again_17 : (List Int) × Int → Option ((List Int))) (x_11 : List Int) (x_16 : Int) : Option ((List Int)) :=
  if x_16 < 7 then (
  Option.bind (must (0 ≤ x_16)) fun u_23 =>
  if (band .i64 (shr .i64 x0 x_16) 1) = 1 then (
  Option.bind (app 17592186044416 x_11 ([x_16] : List Int)) fun t_31 =>
  again_17 (t_31, w64 (x_16 + 1)))
  else (
  again_17 (x_11, w64 (x_16 + 1))))
  else (
  ex_17 x_11)
def view_Members.L1 (K : Nat) (x0 : Int) (ex_17 : (List Int) → Option ((List Int))) : Nat → (List Int) × Int → Option ((List Int)) :=
  iter fun again v => view_Members.B1 K x0 ex_17 again v.1 v.2
def view_Members.f (K : Nat) (x0 : Int) : Option ((List Int)) :=
  view_Members.L1 K x0 (fun v => view_Members.J1 K v) K (([] : List Int), 0)

def slices_Index_sint_int.J1 (K : Nat) : Option (Int) :=
  some (-1)
def slices_Index_sint_int.B1 (K : Nat) (x0 : List Int) (x1 : Int) (ex_7 : Unit → Option (Int)) (again_7 : Int → Option (Int)) (x_6 : Int) : Option (Int) :=
  if x_6 < (x0.length : Int) then (
  Option.bind (ix x0 x_6) fun t_12 =>
  if x1 = t_12 then (
  some x_6)
  else (
  again_7 (w64 (x_6 + 1))))
  else (
  ex_7 ())
def slices_Index_sint_int.L1 (K : Nat) (x0 : List Int) (x1 : Int) (ex_7 : Unit → Option (Int)) : Nat → Int → Option (Int) :=
  iter fun again v => slices_Index_sint_int.B1 K x0 x1 ex_7 again v
def slices_Index_sint_int.f (K : Nat) (x0 : List Int) (x1 : Int) : Option (Int) :=
  slices_Index_sint_int.L1 K x0 x1 (fun v => slices_Index_sint_int.J1 K) K 0

def slices_Contains_sint_int.f (K : Nat) (x0 : List Int) (x1 : Int) : Option (Bool) :=
  Option.bind (slices_Index_sint_int.f K x0 x1) fun t_1 =>
  some (decide (t_1 ≥ 0))

def hocketref15_Gather_Ready.J1 (x0_n : Int) (x0_id : Int) (x0_v : Int) (x0_l : List api_Msg) (x0_commit_Kind : Int) (x0_commit_From : Int) (x0_commit_To : Int) (x0_commit_View : Int) (x0_commit_Inst : Int) (x0_commit_Len : Int) (x0_commit_Has : Bool) (x0_commit_Members : Int) (x0_commit_Source : Int) (x0_commit_At : Int) (x0_commit_Total : Int) (x0_commit_Data : List UInt8) (x0_commit_Hop : Int) (x0_commit_Seq : Int) (x0_commit_Have : List Int) (x0_commit_Need : List Int) (x0_commit_Index : Int) (x0_commit_Entry_Sess : Int) (x0_commit_Entry_Seq : Int) (x0_commit_Entry_Cmd_Kind : Int) (x0_commit_Entry_Cmd_Who : Int) (x0_commit_Entry_Cmd_Key : List UInt8) (x0_commit_Entry_Cmd_Val : List UInt8) (x0_commit_Entry_Cmd_Old : List UInt8) (x0_sure : Bool) (x0_ready : Int) (x1 : Int) (x_4 : Bool) : Option (Bool × Int × Int × Int × (List api_Msg) × Int × Int × Int × Int × Int × Int × Bool × Int × Int × Int × Int × (List UInt8) × Int × Int × (List Int) × (List Int) × Int × Int × Int × Int × Int × (List UInt8) × (List UInt8) × (List UInt8) × Bool × Int) :=
  if x_4 = true then (
  some (false, x0_n, x0_id, x0_v, x0_l, x0_commit_Kind, x0_commit_From, x0_commit_To, x0_commit_View, x0_commit_Inst, x0_commit_Len, x0_commit_Has, x0_commit_Members, x0_commit_Source, x0_commit_At, x0_commit_Total, x0_commit_Data, x0_commit_Hop, x0_commit_Seq, x0_commit_Have, x0_commit_Need, x0_commit_Index, x0_commit_Entry_Sess, x0_commit_Entry_Seq, x0_commit_Entry_Cmd_Kind, x0_commit_Entry_Cmd_Who, x0_commit_Entry_Cmd_Key, x0_commit_Entry_Cmd_Val, x0_commit_Entry_Cmd_Old, x0_sure, x0_ready))
  else (
  some (true, x0_n, x0_id, x0_v, x0_l, x0_commit_Kind, x0_commit_From, x0_commit_To, x0_commit_View, x0_commit_Inst, x0_commit_Len, x0_commit_Has, x0_commit_Members, x0_commit_Source, x0_commit_At, x0_commit_Total, x0_commit_Data, x0_commit_Hop, x0_commit_Seq, x0_commit_Have, x0_commit_Need, x0_commit_Index, x0_commit_Entry_Sess, x0_commit_Entry_Seq, x0_commit_Entry_Cmd_Kind, x0_commit_Entry_Cmd_Who, x0_commit_Entry_Cmd_Key, x0_commit_Entry_Cmd_Val, x0_commit_Entry_Cmd_Old, x0_sure, bor .i64 x0_ready (shl .i64 1 (wu64 x1))))
def hocketref15_Gather_Ready.f (x0_n : Int) (x0_id : Int) (x0_v : Int) (x0_l : List api_Msg) (x0_commit_Kind : Int) (x0_commit_From : Int) (x0_commit_To : Int) (x0_commit_View : Int) (x0_commit_Inst : Int) (x0_commit_Len : Int) (x0_commit_Has : Bool) (x0_commit_Members : Int) (x0_commit_Source : Int) (x0_commit_At : Int) (x0_commit_Total : Int) (x0_commit_Data : List UInt8) (x0_commit_Hop : Int) (x0_commit_Seq : Int) (x0_commit_Have : List Int) (x0_commit_Need : List Int) (x0_commit_Index : Int) (x0_commit_Entry_Sess : Int) (x0_commit_Entry_Seq : Int) (x0_commit_Entry_Cmd_Kind : Int) (x0_commit_Entry_Cmd_Who : Int) (x0_commit_Entry_Cmd_Key : List UInt8) (x0_commit_Entry_Cmd_Val : List UInt8) (x0_commit_Entry_Cmd_Old : List UInt8) (x0_sure : Bool) (x0_ready : Int) (x1 : Int) : Option (Bool × Int × Int × Int × (List api_Msg) × Int × Int × Int × Int × Int × Int × Bool × Int × Int × Int × Int × (List UInt8) × Int × Int × (List Int) × (List Int) × Int × Int × Int × Int × Int × (List UInt8) × (List UInt8) × (List UInt8) × Bool × Int) :=
  if x0_sure = true then (
  if x1 < 0 then (
  hocketref15_Gather_Ready.J1 x0_n x0_id x0_v x0_l x0_commit_Kind x0_commit_From x0_commit_To x0_commit_View x0_commit_Inst x0_commit_Len x0_commit_Has x0_commit_Members x0_commit_Source x0_commit_At x0_commit_Total x0_commit_Data x0_commit_Hop x0_commit_Seq x0_commit_Have x0_commit_Need x0_commit_Index x0_commit_Entry_Sess x0_commit_Entry_Seq x0_commit_Entry_Cmd_Kind x0_commit_Entry_Cmd_Who x0_commit_Entry_Cmd_Key x0_commit_Entry_Cmd_Val x0_commit_Entry_Cmd_Old x0_sure x0_ready x1 true)
  else (
  if x1 > 6 then (
  hocketref15_Gather_Ready.J1 x0_n x0_id x0_v x0_l x0_commit_Kind x0_commit_From x0_commit_To x0_commit_View x0_commit_Inst x0_commit_Len x0_commit_Has x0_commit_Members x0_commit_Source x0_commit_At x0_commit_Total x0_commit_Data x0_commit_Hop x0_commit_Seq x0_commit_Have x0_commit_Need x0_commit_Index x0_commit_Entry_Sess x0_commit_Entry_Seq x0_commit_Entry_Cmd_Kind x0_commit_Entry_Cmd_Who x0_commit_Entry_Cmd_Key x0_commit_Entry_Cmd_Val x0_commit_Entry_Cmd_Old x0_sure x0_ready x1 true)
  else (
  if (band .i64 (shr .i64 x0_commit_Members (wu64 x1)) 1) = 0 then (
  hocketref15_Gather_Ready.J1 x0_n x0_id x0_v x0_l x0_commit_Kind x0_commit_From x0_commit_To x0_commit_View x0_commit_Inst x0_commit_Len x0_commit_Has x0_commit_Members x0_commit_Source x0_commit_At x0_commit_Total x0_commit_Data x0_commit_Hop x0_commit_Seq x0_commit_Have x0_commit_Need x0_commit_Index x0_commit_Entry_Sess x0_commit_Entry_Seq x0_commit_Entry_Cmd_Kind x0_commit_Entry_Cmd_Who x0_commit_Entry_Cmd_Key x0_commit_Entry_Cmd_Val x0_commit_Entry_Cmd_Old x0_sure x0_ready x1 true)
  else (
  hocketref15_Gather_Ready.J1 x0_n x0_id x0_v x0_l x0_commit_Kind x0_commit_From x0_commit_To x0_commit_View x0_commit_Inst x0_commit_Len x0_commit_Has x0_commit_Members x0_commit_Source x0_commit_At x0_commit_Total x0_commit_Data x0_commit_Hop x0_commit_Seq x0_commit_Have x0_commit_Need x0_commit_Index x0_commit_Entry_Sess x0_commit_Entry_Seq x0_commit_Entry_Cmd_Kind x0_commit_Entry_Cmd_Who x0_commit_Entry_Cmd_Key x0_commit_Entry_Cmd_Val x0_commit_Entry_Cmd_Old x0_sure x0_ready x1 ((band .i64 (shr .i64 x0_ready (wu64 x1)) 1) == 1)))))
  else (
  hocketref15_Gather_Ready.J1 x0_n x0_id x0_v x0_l x0_commit_Kind x0_commit_From x0_commit_To x0_commit_View x0_commit_Inst x0_commit_Len x0_commit_Has x0_commit_Members x0_commit_Source x0_commit_At x0_commit_Total x0_commit_Data x0_commit_Hop x0_commit_Seq x0_commit_Have x0_commit_Need x0_commit_Index x0_commit_Entry_Sess x0_commit_Entry_Seq x0_commit_Entry_Cmd_Kind x0_commit_Entry_Cmd_Who x0_commit_Entry_Cmd_Key x0_commit_Entry_Cmd_Val x0_commit_Entry_Cmd_Old x0_sure x0_ready x1 true)

def hocketref15_Gather_Absent.J1 (K : Nat) (x_3 : List Int) : Option ((List Int)) :=
  some x_3
def hocketref15_Gather_Absent.B1 (K : Nat) (x0_n : Int) (x0_id : Int) (x0_v : Int) (x0_l : List api_Msg) (x0_commit_Kind : Int) (x0_commit_From : Int) (x0_commit_To : Int) (x0_commit_View : Int) (x0_commit_Inst : Int) (x0_commit_Len : Int) (x0_commit_Has : Bool) (x0_commit_Members : Int) (x0_commit_Source : Int) (x0_commit_At : Int) (x0_commit_Total : Int) (x0_commit_Data : List UInt8) (x0_commit_Hop : Int) (x0_commit_Seq : Int) (x0_commit_Have : List Int) (x0_commit_Need : List Int) (x0_commit_Index : Int) (x0_commit_Entry_Sess : Int) (x0_commit_Entry_Seq : Int) (x0_commit_Entry_Cmd_Kind : Int) (x0_commit_Entry_Cmd_Who : Int) (x0_commit_Entry_Cmd_Key : List UInt8) (x0_commit_Entry_Cmd_Val : List UInt8) (x0_commit_Entry_Cmd_Old : List UInt8) (x0_sure : Bool) (x0_ready : Int) (ex_17 : (List Int) → Option ((List Int))) (again_17 : (List Int) × Int → Option ((List Int))) (x_11 : List Int) (x_16 : Int) : Option ((List Int)) :=
  if x_16 < x0_n then (
  Option.bind (hocketref15_Gather_has.f K x0_n x0_id x0_v x0_l x0_commit_Kind x0_commit_From x0_commit_To x0_commit_View x0_commit_Inst x0_commit_Len x0_commit_Has x0_commit_Members x0_commit_Source x0_commit_At x0_commit_Total x0_commit_Data x0_commit_Hop x0_commit_Seq x0_commit_Have x0_commit_Need x0_commit_Index x0_commit_Entry_Sess x0_commit_Entry_Seq x0_commit_Entry_Cmd_Kind x0_commit_Entry_Cmd_Who x0_commit_Entry_Cmd_Key x0_commit_Entry_Cmd_Val x0_commit_Entry_Cmd_Old x0_sure x0_ready x_16) fun t_23 =>
  if t_23 = true then (
  again_17 (x_11, w64 (x_16 + 1)))
  else (
  Option.bind (app 17592186044416 x_11 ([x_16] : List Int)) fun t_34 =>
  again_17 (t_34, w64 (x_16 + 1))))
  else (
  ex_17 x_11)
def hocketref15_Gather_Absent.L1 (K : Nat) (x0_n : Int) (x0_id : Int) (x0_v : Int) (x0_l : List api_Msg) (x0_commit_Kind : Int) (x0_commit_From : Int) (x0_commit_To : Int) (x0_commit_View : Int) (x0_commit_Inst : Int) (x0_commit_Len : Int) (x0_commit_Has : Bool) (x0_commit_Members : Int) (x0_commit_Source : Int) (x0_commit_At : Int) (x0_commit_Total : Int) (x0_commit_Data : List UInt8) (x0_commit_Hop : Int) (x0_commit_Seq : Int) (x0_commit_Have : List Int) (x0_commit_Need : List Int) (x0_commit_Index : Int) (x0_commit_Entry_Sess : Int) (x0_commit_Entry_Seq : Int) (x0_commit_Entry_Cmd_Kind : Int) (x0_commit_Entry_Cmd_Who : Int) (x0_commit_Entry_Cmd_Key : List UInt8) (x0_commit_Entry_Cmd_Val : List UInt8) (x0_commit_Entry_Cmd_Old : List UInt8) (x0_sure : Bool) (x0_ready : Int) (ex_17 : (List Int) → Option ((List Int))) : Nat → (List Int) × Int → Option ((List Int)) :=
  iter fun again v => hocketref15_Gather_Absent.B1 K x0_n x0_id x0_v x0_l x0_commit_Kind x0_commit_From x0_commit_To x0_commit_View x0_commit_Inst x0_commit_Len x0_commit_Has x0_commit_Members x0_commit_Source x0_commit_At x0_commit_Total x0_commit_Data x0_commit_Hop x0_commit_Seq x0_commit_Have x0_commit_Need x0_commit_Index x0_commit_Entry_Sess x0_commit_Entry_Seq x0_commit_Entry_Cmd_Kind x0_commit_Entry_Cmd_Who x0_commit_Entry_Cmd_Key x0_commit_Entry_Cmd_Val x0_commit_Entry_Cmd_Old x0_sure x0_ready ex_17 again v.1 v.2
def hocketref15_Gather_Absent.f (K : Nat) (x0_n : Int) (x0_id : Int) (x0_v : Int) (x0_l : List api_Msg) (x0_commit_Kind : Int) (x0_commit_From : Int) (x0_commit_To : Int) (x0_commit_View : Int) (x0_commit_Inst : Int) (x0_commit_Len : Int) (x0_commit_Has : Bool) (x0_commit_Members : Int) (x0_commit_Source : Int) (x0_commit_At : Int) (x0_commit_Total : Int) (x0_commit_Data : List UInt8) (x0_commit_Hop : Int) (x0_commit_Seq : Int) (x0_commit_Have : List Int) (x0_commit_Need : List Int) (x0_commit_Index : Int) (x0_commit_Entry_Sess : Int) (x0_commit_Entry_Seq : Int) (x0_commit_Entry_Cmd_Kind : Int) (x0_commit_Entry_Cmd_Who : Int) (x0_commit_Entry_Cmd_Key : List UInt8) (x0_commit_Entry_Cmd_Val : List UInt8) (x0_commit_Entry_Cmd_Old : List UInt8) (x0_sure : Bool) (x0_ready : Int) : Option ((List Int)) :=
  hocketref15_Gather_Absent.L1 K x0_n x0_id x0_v x0_l x0_commit_Kind x0_commit_From x0_commit_To x0_commit_View x0_commit_Inst x0_commit_Len x0_commit_Has x0_commit_Members x0_commit_Source x0_commit_At x0_commit_Total x0_commit_Data x0_commit_Hop x0_commit_Seq x0_commit_Have x0_commit_Need x0_commit_Index x0_commit_Entry_Sess x0_commit_Entry_Seq x0_commit_Entry_Cmd_Kind x0_commit_Entry_Cmd_Who x0_commit_Entry_Cmd_Key x0_commit_Entry_Cmd_Val x0_commit_Entry_Cmd_Old x0_sure x0_ready (fun v => hocketref15_Gather_Absent.J1 K v) K (([] : List Int), 0)

def hocketref15_Gather_Unready.f (K : Nat) (x0_n : Int) (x0_id : Int) (x0_v : Int) (x0_l : List api_Msg) (x0_commit_Kind : Int) (x0_commit_From : Int) (x0_commit_To : Int) (x0_commit_View : Int) (x0_commit_Inst : Int) (x0_commit_Len : Int) (x0_commit_Has : Bool) (x0_commit_Members : Int) (x0_commit_Source : Int) (x0_commit_At : Int) (x0_commit_Total : Int) (x0_commit_Data : List UInt8) (x0_commit_Hop : Int) (x0_commit_Seq : Int) (x0_commit_Have : List Int) (x0_commit_Need : List Int) (x0_commit_Index : Int) (x0_commit_Entry_Sess : Int) (x0_commit_Entry_Seq : Int) (x0_commit_Entry_Cmd_Kind : Int) (x0_commit_Entry_Cmd_Who : Int) (x0_commit_Entry_Cmd_Key : List UInt8) (x0_commit_Entry_Cmd_Val : List UInt8) (x0_commit_Entry_Cmd_Old : List UInt8) (x0_sure : Bool) (x0_ready : Int) : Option ((List Int)) :=
  if x0_sure = true then (
  Option.bind (hocketref11_Members.f K (bandn .i64 x0_commit_Members x0_ready)) fun t_5 =>
  some t_5)
  else (
  some ([] : List Int))

def hocketref15_Gather_Done.f (x0_n : Int) (x0_id : Int) (x0_v : Int) (x0_l : List api_Msg) (x0_commit_Kind : Int) (x0_commit_From : Int) (x0_commit_To : Int) (x0_commit_View : Int) (x0_commit_Inst : Int) (x0_commit_Len : Int) (x0_commit_Has : Bool) (x0_commit_Members : Int) (x0_commit_Source : Int) (x0_commit_At : Int) (x0_commit_Total : Int) (x0_commit_Data : List UInt8) (x0_commit_Hop : Int) (x0_commit_Seq : Int) (x0_commit_Have : List Int) (x0_commit_Need : List Int) (x0_commit_Index : Int) (x0_commit_Entry_Sess : Int) (x0_commit_Entry_Seq : Int) (x0_commit_Entry_Cmd_Kind : Int) (x0_commit_Entry_Cmd_Who : Int) (x0_commit_Entry_Cmd_Key : List UInt8) (x0_commit_Entry_Cmd_Val : List UInt8) (x0_commit_Entry_Cmd_Old : List UInt8) (x0_sure : Bool) (x0_ready : Int) : Option (Bool) :=
  if x0_sure = true then (
  some (x0_ready == x0_commit_Members))
  else (
  some false)

def gath_without_1.f (x0 : Int) (x1_ : Int) : Option (Bool) :=
  Option.bind (must (0 ≤ x0)) fun u_1 =>
  some ((band .i64 (shr .i64 x1_ x0) 1) == 1)

def slices_IndexFunc_sint_int_39.J1 (K : Nat) : Option (Int) :=
  some (-1)
def slices_IndexFunc_sint_int_39.B1 (K : Nat) (x0 : List Int) (x2_ : Int) (ex_7 : Unit → Option (Int)) (again_7 : Int → Option (Int)) (x_6 : Int) : Option (Int) :=
  if x_6 < (x0.length : Int) then (
  Option.bind (ix x0 x_6) fun t_12 =>
  Option.bind (gath_without_1.f t_12 x2_) fun t_17 =>
  if t_17 = true then (
  some x_6)
  else (
  again_7 (w64 (x_6 + 1))))
  else (
  ex_7 ())
def slices_IndexFunc_sint_int_39.L1 (K : Nat) (x0 : List Int) (x2_ : Int) (ex_7 : Unit → Option (Int)) : Nat → Int → Option (Int) :=
  iter fun again v => slices_IndexFunc_sint_int_39.B1 K x0 x2_ ex_7 again v
def slices_IndexFunc_sint_int_39.f (K : Nat) (x0 : List Int) (x2_ : Int) : Option (Int) :=
  slices_IndexFunc_sint_int_39.L1 K x0 x2_ (fun v => slices_IndexFunc_sint_int_39.J1 K) K 0

def slices_DeleteFunc_sint_int_39.J1 (K : Nat) (x_9 : List Int) (x_14 : Int) : Option ((List Int)) :=
  Option.bind (must (0 ≤ x_14 ∧ x_14 ≤ (x_9.length : Int) ∧ (x_9.length : Int) ≤ (x_9.length : Int))) fun u_17 =>
  Option.bind (must (0 ≤ x_14 ∧ x_14 ≤ ((x_9.take (x_14).toNat ++ List.replicate (((x_9.length : Int)).toNat - (x_14).toNat) 0).length : Int))) fun u_24 =>
  some ((x_9.take (x_14).toNat ++ List.replicate (((x_9.length : Int)).toNat - (x_14).toNat) 0).take (x_14).toNat)
def slices_DeleteFunc_sint_int_39.B1 (K : Nat) (x2_ : Int) (ex_36 : (List Int) × Int → Option ((List Int))) (again_36 : (List Int) × Int × Int → Option ((List Int))) (x_29 : List Int) (x_34 : Int) (x_35 : Int) : Option ((List Int)) :=
  if x_35 < (x_29.length : Int) then (
  Option.bind (ix x_29 x_35) fun t_41 =>
  Option.bind (gath_without_1.f t_41 x2_) fun t_46 =>
  if t_46 = true then (
  again_36 (x_29, x_34, w64 (x_35 + 1)))
  else (
  Option.bind (ix x_29 x_34) fun t_51 =>
  again_36 ((x_29.set (x_34).toNat t_41), w64 (x_34 + 1), w64 (x_35 + 1))))
  else (
  ex_36 (x_29, x_34))
def slices_DeleteFunc_sint_int_39.L1 (K : Nat) (x2_ : Int) (ex_36 : (List Int) × Int → Option ((List Int))) : Nat → (List Int) × Int × Int → Option ((List Int)) :=
  iter fun again v => slices_DeleteFunc_sint_int_39.B1 K x2_ ex_36 again v.1 v.2.1 v.2.2
def slices_DeleteFunc_sint_int_39.f (K : Nat) (x0 : List Int) (x2_ : Int) : Option ((List Int)) :=
  Option.bind (slices_IndexFunc_sint_int_39.f K x0 x2_) fun t_1 =>
  if t_1 = (-1) then (
  some x0)
  else (
  slices_DeleteFunc_sint_int_39.L1 K x2_ (fun v => slices_DeleteFunc_sint_int_39.J1 K v.1 v.2) K (x0, t_1, w64 (t_1 + 1)))

def gath_without.f (K : Nat) (x0 : Int) (x1 : Int) : Option ((List Int)) :=
  Option.bind (view_Members.f K x0) fun t_3 =>
  Option.bind (slices_DeleteFunc_sint_int_39.f K t_3 x1) fun t_11 =>
  some t_11

def gath_Gather_Unready.f (K : Nat) (x0_n : Int) (x0_id : Int) (x0_v : Int) (x0_l : List api_Msg) (x0_come : Int) (x0_ready : Int) (x0_commit_Kind : Int) (x0_commit_From : Int) (x0_commit_To : Int) (x0_commit_View : Int) (x0_commit_Inst : Int) (x0_commit_Len : Int) (x0_commit_Has : Bool) (x0_commit_Members : Int) (x0_commit_Source : Int) (x0_commit_At : Int) (x0_commit_Total : Int) (x0_commit_Data : List UInt8) (x0_commit_Hop : Int) (x0_commit_Seq : Int) (x0_commit_Have : List Int) (x0_commit_Need : List Int) (x0_commit_Index : Int) (x0_commit_Entry_Sess : Int) (x0_commit_Entry_Seq : Int) (x0_commit_Entry_Cmd_Kind : Int) (x0_commit_Entry_Cmd_Who : Int) (x0_commit_Entry_Cmd_Key : List UInt8) (x0_commit_Entry_Cmd_Val : List UInt8) (x0_commit_Entry_Cmd_Old : List UInt8) (x0_is : Bool) : Option ((List Int)) :=
  Option.bind (gath_without.f K x0_commit_Members x0_ready) fun t_3 =>
  some t_3

def gath_Gather_Ready.J1 (K : Nat) (x0_n : Int) (x0_id : Int) (x0_v : Int) (x0_l : List api_Msg) (x0_come : Int) (x0_ready : Int) (x0_commit_Kind : Int) (x0_commit_From : Int) (x0_commit_To : Int) (x0_commit_View : Int) (x0_commit_Inst : Int) (x0_commit_Len : Int) (x0_commit_Has : Bool) (x0_commit_Members : Int) (x0_commit_Source : Int) (x0_commit_At : Int) (x0_commit_Total : Int) (x0_commit_Data : List UInt8) (x0_commit_Hop : Int) (x0_commit_Seq : Int) (x0_commit_Have : List Int) (x0_commit_Need : List Int) (x0_commit_Index : Int) (x0_commit_Entry_Sess : Int) (x0_commit_Entry_Seq : Int) (x0_commit_Entry_Cmd_Kind : Int) (x0_commit_Entry_Cmd_Who : Int) (x0_commit_Entry_Cmd_Key : List UInt8) (x0_commit_Entry_Cmd_Val : List UInt8) (x0_commit_Entry_Cmd_Old : List UInt8) (x0_is : Bool) (x1 : Int) (x_4 : Bool) : Option (Bool × Int × Int × Int × (List api_Msg) × Int × Int × Int × Int × Int × Int × Int × Int × Bool × Int × Int × Int × Int × (List UInt8) × Int × Int × (List Int) × (List Int) × Int × Int × Int × Int × Int × (List UInt8) × (List UInt8) × (List UInt8) × Bool) :=
  if x_4 = true then (
  some (false, x0_n, x0_id, x0_v, x0_l, x0_come, x0_ready, x0_commit_Kind, x0_commit_From, x0_commit_To, x0_commit_View, x0_commit_Inst, x0_commit_Len, x0_commit_Has, x0_commit_Members, x0_commit_Source, x0_commit_At, x0_commit_Total, x0_commit_Data, x0_commit_Hop, x0_commit_Seq, x0_commit_Have, x0_commit_Need, x0_commit_Index, x0_commit_Entry_Sess, x0_commit_Entry_Seq, x0_commit_Entry_Cmd_Kind, x0_commit_Entry_Cmd_Who, x0_commit_Entry_Cmd_Key, x0_commit_Entry_Cmd_Val, x0_commit_Entry_Cmd_Old, x0_is))
  else (
  Option.bind (must (0 ≤ x1)) fun u_10 =>
  some (true, x0_n, x0_id, x0_v, x0_l, x0_come, bor .i64 x0_ready (shl .i64 1 x1), x0_commit_Kind, x0_commit_From, x0_commit_To, x0_commit_View, x0_commit_Inst, x0_commit_Len, x0_commit_Has, x0_commit_Members, x0_commit_Source, x0_commit_At, x0_commit_Total, x0_commit_Data, x0_commit_Hop, x0_commit_Seq, x0_commit_Have, x0_commit_Need, x0_commit_Index, x0_commit_Entry_Sess, x0_commit_Entry_Seq, x0_commit_Entry_Cmd_Kind, x0_commit_Entry_Cmd_Who, x0_commit_Entry_Cmd_Key, x0_commit_Entry_Cmd_Val, x0_commit_Entry_Cmd_Old, x0_is))
def gath_Gather_Ready.f (K : Nat) (x0_n : Int) (x0_id : Int) (x0_v : Int) (x0_l : List api_Msg) (x0_come : Int) (x0_ready : Int) (x0_commit_Kind : Int) (x0_commit_From : Int) (x0_commit_To : Int) (x0_commit_View : Int) (x0_commit_Inst : Int) (x0_commit_Len : Int) (x0_commit_Has : Bool) (x0_commit_Members : Int) (x0_commit_Source : Int) (x0_commit_At : Int) (x0_commit_Total : Int) (x0_commit_Data : List UInt8) (x0_commit_Hop : Int) (x0_commit_Seq : Int) (x0_commit_Have : List Int) (x0_commit_Need : List Int) (x0_commit_Index : Int) (x0_commit_Entry_Sess : Int) (x0_commit_Entry_Seq : Int) (x0_commit_Entry_Cmd_Kind : Int) (x0_commit_Entry_Cmd_Who : Int) (x0_commit_Entry_Cmd_Key : List UInt8) (x0_commit_Entry_Cmd_Val : List UInt8) (x0_commit_Entry_Cmd_Old : List UInt8) (x0_is : Bool) (x1 : Int) : Option (Bool × Int × Int × Int × (List api_Msg) × Int × Int × Int × Int × Int × Int × Int × Int × Bool × Int × Int × Int × Int × (List UInt8) × Int × Int × (List Int) × (List Int) × Int × Int × Int × Int × Int × (List UInt8) × (List UInt8) × (List UInt8) × Bool) :=
  if x0_is = true then (
  Option.bind (gath_Gather_Unready.f K x0_n x0_id x0_v x0_l x0_come x0_ready x0_commit_Kind x0_commit_From x0_commit_To x0_commit_View x0_commit_Inst x0_commit_Len x0_commit_Has x0_commit_Members x0_commit_Source x0_commit_At x0_commit_Total x0_commit_Data x0_commit_Hop x0_commit_Seq x0_commit_Have x0_commit_Need x0_commit_Index x0_commit_Entry_Sess x0_commit_Entry_Seq x0_commit_Entry_Cmd_Kind x0_commit_Entry_Cmd_Who x0_commit_Entry_Cmd_Key x0_commit_Entry_Cmd_Val x0_commit_Entry_Cmd_Old x0_is) fun t_13 =>
  Option.bind (slices_Contains_sint_int.f K t_13 x1) fun t_21 =>
  gath_Gather_Ready.J1 K x0_n x0_id x0_v x0_l x0_come x0_ready x0_commit_Kind x0_commit_From x0_commit_To x0_commit_View x0_commit_Inst x0_commit_Len x0_commit_Has x0_commit_Members x0_commit_Source x0_commit_At x0_commit_Total x0_commit_Data x0_commit_Hop x0_commit_Seq x0_commit_Have x0_commit_Need x0_commit_Index x0_commit_Entry_Sess x0_commit_Entry_Seq x0_commit_Entry_Cmd_Kind x0_commit_Entry_Cmd_Who x0_commit_Entry_Cmd_Key x0_commit_Entry_Cmd_Val x0_commit_Entry_Cmd_Old x0_is x1 (!t_21))
  else (
  gath_Gather_Ready.J1 K x0_n x0_id x0_v x0_l x0_come x0_ready x0_commit_Kind x0_commit_From x0_commit_To x0_commit_View x0_commit_Inst x0_commit_Len x0_commit_Has x0_commit_Members x0_commit_Source x0_commit_At x0_commit_Total x0_commit_Data x0_commit_Hop x0_commit_Seq x0_commit_Have x0_commit_Need x0_commit_Index x0_commit_Entry_Sess x0_commit_Entry_Seq x0_commit_Entry_Cmd_Kind x0_commit_Entry_Cmd_Who x0_commit_Entry_Cmd_Key x0_commit_Entry_Cmd_Val x0_commit_Entry_Cmd_Old x0_is x1 true)

def gath_Gather_Absent.f (K : Nat) (x0_n : Int) (x0_id : Int) (x0_v : Int) (x0_l : List api_Msg) (x0_come : Int) (x0_ready : Int) (x0_commit_Kind : Int) (x0_commit_From : Int) (x0_commit_To : Int) (x0_commit_View : Int) (x0_commit_Inst : Int) (x0_commit_Len : Int) (x0_commit_Has : Bool) (x0_commit_Members : Int) (x0_commit_Source : Int) (x0_commit_At : Int) (x0_commit_Total : Int) (x0_commit_Data : List UInt8) (x0_commit_Hop : Int) (x0_commit_Seq : Int) (x0_commit_Have : List Int) (x0_commit_Need : List Int) (x0_commit_Index : Int) (x0_commit_Entry_Sess : Int) (x0_commit_Entry_Seq : Int) (x0_commit_Entry_Cmd_Kind : Int) (x0_commit_Entry_Cmd_Who : Int) (x0_commit_Entry_Cmd_Key : List UInt8) (x0_commit_Entry_Cmd_Val : List UInt8) (x0_commit_Entry_Cmd_Old : List UInt8) (x0_is : Bool) : Option ((List Int)) :=
  Option.bind (must (0 ≤ x0_n)) fun u_3 =>
  Option.bind (gath_without.f K (w64 ((shl .i64 1 x0_n) - 1)) x0_come) fun t_4 =>
  some t_4

def gath_Gather_All.f (K : Nat) (x0_n : Int) (x0_id : Int) (x0_v : Int) (x0_l : List api_Msg) (x0_come : Int) (x0_ready : Int) (x0_commit_Kind : Int) (x0_commit_From : Int) (x0_commit_To : Int) (x0_commit_View : Int) (x0_commit_Inst : Int) (x0_commit_Len : Int) (x0_commit_Has : Bool) (x0_commit_Members : Int) (x0_commit_Source : Int) (x0_commit_At : Int) (x0_commit_Total : Int) (x0_commit_Data : List UInt8) (x0_commit_Hop : Int) (x0_commit_Seq : Int) (x0_commit_Have : List Int) (x0_commit_Need : List Int) (x0_commit_Index : Int) (x0_commit_Entry_Sess : Int) (x0_commit_Entry_Seq : Int) (x0_commit_Entry_Cmd_Kind : Int) (x0_commit_Entry_Cmd_Who : Int) (x0_commit_Entry_Cmd_Key : List UInt8) (x0_commit_Entry_Cmd_Val : List UInt8) (x0_commit_Entry_Cmd_Old : List UInt8) (x0_is : Bool) : Option (Bool) :=
  Option.bind (gath_Gather_Absent.f K x0_n x0_id x0_v x0_l x0_come x0_ready x0_commit_Kind x0_commit_From x0_commit_To x0_commit_View x0_commit_Inst x0_commit_Len x0_commit_Has x0_commit_Members x0_commit_Source x0_commit_At x0_commit_Total x0_commit_Data x0_commit_Hop x0_commit_Seq x0_commit_Have x0_commit_Need x0_commit_Index x0_commit_Entry_Sess x0_commit_Entry_Seq x0_commit_Entry_Cmd_Kind x0_commit_Entry_Cmd_Who x0_commit_Entry_Cmd_Key x0_commit_Entry_Cmd_Val x0_commit_Entry_Cmd_Old x0_is) fun t_1 =>
  some ((t_1.length : Int) == 0)

def gath_Gather_Done.f (K : Nat) (x0_n : Int) (x0_id : Int) (x0_v : Int) (x0_l : List api_Msg) (x0_come : Int) (x0_ready : Int) (x0_commit_Kind : Int) (x0_commit_From : Int) (x0_commit_To : Int) (x0_commit_View : Int) (x0_commit_Inst : Int) (x0_commit_Len : Int) (x0_commit_Has : Bool) (x0_commit_Members : Int) (x0_commit_Source : Int) (x0_commit_At : Int) (x0_commit_Total : Int) (x0_commit_Data : List UInt8) (x0_commit_Hop : Int) (x0_commit_Seq : Int) (x0_commit_Have : List Int) (x0_commit_Need : List Int) (x0_commit_Index : Int) (x0_commit_Entry_Sess : Int) (x0_commit_Entry_Seq : Int) (x0_commit_Entry_Cmd_Kind : Int) (x0_commit_Entry_Cmd_Who : Int) (x0_commit_Entry_Cmd_Key : List UInt8) (x0_commit_Entry_Cmd_Val : List UInt8) (x0_commit_Entry_Cmd_Old : List UInt8) (x0_is : Bool) : Option (Bool) :=
  if x0_is = true then (
  Option.bind (gath_Gather_Unready.f K x0_n x0_id x0_v x0_l x0_come x0_ready x0_commit_Kind x0_commit_From x0_commit_To x0_commit_View x0_commit_Inst x0_commit_Len x0_commit_Has x0_commit_Members x0_commit_Source x0_commit_At x0_commit_Total x0_commit_Data x0_commit_Hop x0_commit_Seq x0_commit_Have x0_commit_Need x0_commit_Index x0_commit_Entry_Sess x0_commit_Entry_Seq x0_commit_Entry_Cmd_Kind x0_commit_Entry_Cmd_Who x0_commit_Entry_Cmd_Key x0_commit_Entry_Cmd_Val x0_commit_Entry_Cmd_Old x0_is) fun t_3 =>
  some ((t_3.length : Int) == 0))
  else (
  some false)

def hocketlaw18_awake.f (K : Nat) : Option (Unit) :=
  Option.bind (gath_New.f 3 1 9 (⟨2, 1, 0, 9, 0, 0, true, 0, 0, 0, 0, ([] : List UInt8), 0, 0, ([] : List Int), ([] : List Int), 0, (⟨0, 0, (⟨0, 0, ([] : List UInt8), ([] : List UInt8), ([] : List UInt8)⟩ : api_Cmd)⟩ : api_Entry)⟩ : api_Msg)) fun t_1 =>
  Option.bind (gath_Gather_Commit.f K t_1.1 t_1.2.1 t_1.2.2.1 t_1.2.2.2.1 t_1.2.2.2.2.1 t_1.2.2.2.2.2.1 t_1.2.2.2.2.2.2.1 t_1.2.2.2.2.2.2.2.1 t_1.2.2.2.2.2.2.2.2.1 t_1.2.2.2.2.2.2.2.2.2.1 t_1.2.2.2.2.2.2.2.2.2.2.1 t_1.2.2.2.2.2.2.2.2.2.2.2.1 t_1.2.2.2.2.2.2.2.2.2.2.2.2.1 t_1.2.2.2.2.2.2.2.2.2.2.2.2.2.1 t_1.2.2.2.2.2.2.2.2.2.2.2.2.2.2.1 t_1.2.2.2.2.2.2.2.2.2.2.2.2.2.2.2.1 t_1.2.2.2.2.2.2.2.2.2.2.2.2.2.2.2.2.1 t_1.2.2.2.2.2.2.2.2.2.2.2.2.2.2.2.2.2.1 t_1.2.2.2.2.2.2.2.2.2.2.2.2.2.2.2.2.2.2.1 t_1.2.2.2.2.2.2.2.2.2.2.2.2.2.2.2.2.2.2.2.1 t_1.2.2.2.2.2.2.2.2.2.2.2.2.2.2.2.2.2.2.2.2.1 t_1.2.2.2.2.2.2.2.2.2.2.2.2.2.2.2.2.2.2.2.2.2.1 t_1.2.2.2.2.2.2.2.2.2.2.2.2.2.2.2.2.2.2.2.2.2.2.1 t_1.2.2.2.2.2.2.2.2.2.2.2.2.2.2.2.2.2.2.2.2.2.2.2.1 t_1.2.2.2.2.2.2.2.2.2.2.2.2.2.2.2.2.2.2.2.2.2.2.2.2.1 t_1.2.2.2.2.2.2.2.2.2.2.2.2.2.2.2.2.2.2.2.2.2.2.2.2.2.1 t_1.2.2.2.2.2.2.2.2.2.2.2.2.2.2.2.2.2.2.2.2.2.2.2.2.2.2.1 t_1.2.2.2.2.2.2.2.2.2.2.2.2.2.2.2.2.2.2.2.2.2.2.2.2.2.2.2.1 t_1.2.2.2.2.2.2.2.2.2.2.2.2.2.2.2.2.2.2.2.2.2.2.2.2.2.2.2.2.1 t_1.2.2.2.2.2.2.2.2.2.2.2.2.2.2.2.2.2.2.2.2.2.2.2.2.2.2.2.2.2.1 t_1.2.2.2.2.2.2.2.2.2.2.2.2.2.2.2.2.2.2.2.2.2.2.2.2.2.2.2.2.2.2) fun t_23 =>
  Option.bind (gath_Gather_Take.f t_23.2.2.1 t_23.2.2.2.1 t_23.2.2.2.2.1 t_23.2.2.2.2.2.1 t_23.2.2.2.2.2.2.1 t_23.2.2.2.2.2.2.2.1 t_23.2.2.2.2.2.2.2.2.1 t_23.2.2.2.2.2.2.2.2.2.1 t_23.2.2.2.2.2.2.2.2.2.2.1 t_23.2.2.2.2.2.2.2.2.2.2.2.1 t_23.2.2.2.2.2.2.2.2.2.2.2.2.1 t_23.2.2.2.2.2.2.2.2.2.2.2.2.2.1 t_23.2.2.2.2.2.2.2.2.2.2.2.2.2.2.1 t_23.2.2.2.2.2.2.2.2.2.2.2.2.2.2.2.1 t_23.2.2.2.2.2.2.2.2.2.2.2.2.2.2.2.2.1 t_23.2.2.2.2.2.2.2.2.2.2.2.2.2.2.2.2.2.1 t_23.2.2.2.2.2.2.2.2.2.2.2.2.2.2.2.2.2.2.1 t_23.2.2.2.2.2.2.2.2.2.2.2.2.2.2.2.2.2.2.2.1 t_23.2.2.2.2.2.2.2.2.2.2.2.2.2.2.2.2.2.2.2.2.1 t_23.2.2.2.2.2.2.2.2.2.2.2.2.2.2.2.2.2.2.2.2.2.1 t_23.2.2.2.2.2.2.2.2.2.2.2.2.2.2.2.2.2.2.2.2.2.2.1 t_23.2.2.2.2.2.2.2.2.2.2.2.2.2.2.2.2.2.2.2.2.2.2.2.1 t_23.2.2.2.2.2.2.2.2.2.2.2.2.2.2.2.2.2.2.2.2.2.2.2.2.1 t_23.2.2.2.2.2.2.2.2.2.2.2.2.2.2.2.2.2.2.2.2.2.2.2.2.2.1 t_23.2.2.2.2.2.2.2.2.2.2.2.2.2.2.2.2.2.2.2.2.2.2.2.2.2.2.1 t_23.2.2.2.2.2.2.2.2.2.2.2.2.2.2.2.2.2.2.2.2.2.2.2.2.2.2.2.1 t_23.2.2.2.2.2.2.2.2.2.2.2.2.2.2.2.2.2.2.2.2.2.2.2.2.2.2.2.2.1 t_23.2.2.2.2.2.2.2.2.2.2.2.2.2.2.2.2.2.2.2.2.2.2.2.2.2.2.2.2.2.1 t_23.2.2.2.2.2.2.2.2.2.2.2.2.2.2.2.2.2.2.2.2.2.2.2.2.2.2.2.2.2.2.1 t_23.2.2.2.2.2.2.2.2.2.2.2.2.2.2.2.2.2.2.2.2.2.2.2.2.2.2.2.2.2.2.2.1 t_23.2.2.2.2.2.2.2.2.2.2.2.2.2.2.2.2.2.2.2.2.2.2.2.2.2.2.2.2.2.2.2.2 (⟨2, 0, 0, 9, 0, 0, true, 0, 0, 0, 0, ([] : List UInt8), 0, 0, ([] : List Int), ([] : List Int), 0, (⟨0, 0, (⟨0, 0, ([] : List UInt8), ([] : List UInt8), ([] : List UInt8)⟩ : api_Cmd)⟩ : api_Entry)⟩ : api_Msg)) fun t_58 =>
  Option.bind (gath_Gather_Take.f t_58.2.1 t_58.2.2.1 t_58.2.2.2.1 t_58.2.2.2.2.1 t_58.2.2.2.2.2.1 t_58.2.2.2.2.2.2.1 t_58.2.2.2.2.2.2.2.1 t_58.2.2.2.2.2.2.2.2.1 t_58.2.2.2.2.2.2.2.2.2.1 t_58.2.2.2.2.2.2.2.2.2.2.1 t_58.2.2.2.2.2.2.2.2.2.2.2.1 t_58.2.2.2.2.2.2.2.2.2.2.2.2.1 t_58.2.2.2.2.2.2.2.2.2.2.2.2.2.1 t_58.2.2.2.2.2.2.2.2.2.2.2.2.2.2.1 t_58.2.2.2.2.2.2.2.2.2.2.2.2.2.2.2.1 t_58.2.2.2.2.2.2.2.2.2.2.2.2.2.2.2.2.1 t_58.2.2.2.2.2.2.2.2.2.2.2.2.2.2.2.2.2.1 t_58.2.2.2.2.2.2.2.2.2.2.2.2.2.2.2.2.2.2.1 t_58.2.2.2.2.2.2.2.2.2.2.2.2.2.2.2.2.2.2.2.1 t_58.2.2.2.2.2.2.2.2.2.2.2.2.2.2.2.2.2.2.2.2.1 t_58.2.2.2.2.2.2.2.2.2.2.2.2.2.2.2.2.2.2.2.2.2.1 t_58.2.2.2.2.2.2.2.2.2.2.2.2.2.2.2.2.2.2.2.2.2.2.1 t_58.2.2.2.2.2.2.2.2.2.2.2.2.2.2.2.2.2.2.2.2.2.2.2.1 t_58.2.2.2.2.2.2.2.2.2.2.2.2.2.2.2.2.2.2.2.2.2.2.2.2.1 t_58.2.2.2.2.2.2.2.2.2.2.2.2.2.2.2.2.2.2.2.2.2.2.2.2.2.1 t_58.2.2.2.2.2.2.2.2.2.2.2.2.2.2.2.2.2.2.2.2.2.2.2.2.2.2.1 t_58.2.2.2.2.2.2.2.2.2.2.2.2.2.2.2.2.2.2.2.2.2.2.2.2.2.2.2.1 t_58.2.2.2.2.2.2.2.2.2.2.2.2.2.2.2.2.2.2.2.2.2.2.2.2.2.2.2.2.1 t_58.2.2.2.2.2.2.2.2.2.2.2.2.2.2.2.2.2.2.2.2.2.2.2.2.2.2.2.2.2.1 t_58.2.2.2.2.2.2.2.2.2.2.2.2.2.2.2.2.2.2.2.2.2.2.2.2.2.2.2.2.2.2.1 t_58.2.2.2.2.2.2.2.2.2.2.2.2.2.2.2.2.2.2.2.2.2.2.2.2.2.2.2.2.2.2.2 (⟨2, 0, 0, 9, 0, 0, false, 0, 0, 0, 0, ([] : List UInt8), 0, 0, ([] : List Int), ([] : List Int), 0, (⟨0, 0, (⟨0, 0, ([] : List UInt8), ([] : List UInt8), ([] : List UInt8)⟩ : api_Cmd)⟩ : api_Entry)⟩ : api_Msg)) fun t_78 =>
  Option.bind (gath_Gather_Absent.f K t_78.2.1 t_78.2.2.1 t_78.2.2.2.1 t_78.2.2.2.2.1 t_78.2.2.2.2.2.1 t_78.2.2.2.2.2.2.1 t_78.2.2.2.2.2.2.2.1 t_78.2.2.2.2.2.2.2.2.1 t_78.2.2.2.2.2.2.2.2.2.1 t_78.2.2.2.2.2.2.2.2.2.2.1 t_78.2.2.2.2.2.2.2.2.2.2.2.1 t_78.2.2.2.2.2.2.2.2.2.2.2.2.1 t_78.2.2.2.2.2.2.2.2.2.2.2.2.2.1 t_78.2.2.2.2.2.2.2.2.2.2.2.2.2.2.1 t_78.2.2.2.2.2.2.2.2.2.2.2.2.2.2.2.1 t_78.2.2.2.2.2.2.2.2.2.2.2.2.2.2.2.2.1 t_78.2.2.2.2.2.2.2.2.2.2.2.2.2.2.2.2.2.1 t_78.2.2.2.2.2.2.2.2.2.2.2.2.2.2.2.2.2.2.1 t_78.2.2.2.2.2.2.2.2.2.2.2.2.2.2.2.2.2.2.2.1 t_78.2.2.2.2.2.2.2.2.2.2.2.2.2.2.2.2.2.2.2.2.1 t_78.2.2.2.2.2.2.2.2.2.2.2.2.2.2.2.2.2.2.2.2.2.1 t_78.2.2.2.2.2.2.2.2.2.2.2.2.2.2.2.2.2.2.2.2.2.2.1 t_78.2.2.2.2.2.2.2.2.2.2.2.2.2.2.2.2.2.2.2.2.2.2.2.1 t_78.2.2.2.2.2.2.2.2.2.2.2.2.2.2.2.2.2.2.2.2.2.2.2.2.1 t_78.2.2.2.2.2.2.2.2.2.2.2.2.2.2.2.2.2.2.2.2.2.2.2.2.2.1 t_78.2.2.2.2.2.2.2.2.2.2.2.2.2.2.2.2.2.2.2.2.2.2.2.2.2.2.1 t_78.2.2.2.2.2.2.2.2.2.2.2.2.2.2.2.2.2.2.2.2.2.2.2.2.2.2.2.1 t_78.2.2.2.2.2.2.2.2.2.2.2.2.2.2.2.2.2.2.2.2.2.2.2.2.2.2.2.2.1 t_78.2.2.2.2.2.2.2.2.2.2.2.2.2.2.2.2.2.2.2.2.2.2.2.2.2.2.2.2.2.1 t_78.2.2.2.2.2.2.2.2.2.2.2.2.2.2.2.2.2.2.2.2.2.2.2.2.2.2.2.2.2.2.1 t_78.2.2.2.2.2.2.2.2.2.2.2.2.2.2.2.2.2.2.2.2.2.2.2.2.2.2.2.2.2.2.2) fun t_98 =>
  Option.bind (gath_Gather_Commit.f K t_78.2.1 t_78.2.2.1 t_78.2.2.2.1 t_78.2.2.2.2.1 t_78.2.2.2.2.2.1 t_78.2.2.2.2.2.2.1 t_78.2.2.2.2.2.2.2.1 t_78.2.2.2.2.2.2.2.2.1 t_78.2.2.2.2.2.2.2.2.2.1 t_78.2.2.2.2.2.2.2.2.2.2.1 t_78.2.2.2.2.2.2.2.2.2.2.2.1 t_78.2.2.2.2.2.2.2.2.2.2.2.2.1 t_78.2.2.2.2.2.2.2.2.2.2.2.2.2.1 t_78.2.2.2.2.2.2.2.2.2.2.2.2.2.2.1 t_78.2.2.2.2.2.2.2.2.2.2.2.2.2.2.2.1 t_78.2.2.2.2.2.2.2.2.2.2.2.2.2.2.2.2.1 t_78.2.2.2.2.2.2.2.2.2.2.2.2.2.2.2.2.2.1 t_78.2.2.2.2.2.2.2.2.2.2.2.2.2.2.2.2.2.2.1 t_78.2.2.2.2.2.2.2.2.2.2.2.2.2.2.2.2.2.2.2.1 t_78.2.2.2.2.2.2.2.2.2.2.2.2.2.2.2.2.2.2.2.2.1 t_78.2.2.2.2.2.2.2.2.2.2.2.2.2.2.2.2.2.2.2.2.2.1 t_78.2.2.2.2.2.2.2.2.2.2.2.2.2.2.2.2.2.2.2.2.2.2.1 t_78.2.2.2.2.2.2.2.2.2.2.2.2.2.2.2.2.2.2.2.2.2.2.2.1 t_78.2.2.2.2.2.2.2.2.2.2.2.2.2.2.2.2.2.2.2.2.2.2.2.2.1 t_78.2.2.2.2.2.2.2.2.2.2.2.2.2.2.2.2.2.2.2.2.2.2.2.2.2.1 t_78.2.2.2.2.2.2.2.2.2.2.2.2.2.2.2.2.2.2.2.2.2.2.2.2.2.2.1 t_78.2.2.2.2.2.2.2.2.2.2.2.2.2.2.2.2.2.2.2.2.2.2.2.2.2.2.2.1 t_78.2.2.2.2.2.2.2.2.2.2.2.2.2.2.2.2.2.2.2.2.2.2.2.2.2.2.2.2.1 t_78.2.2.2.2.2.2.2.2.2.2.2.2.2.2.2.2.2.2.2.2.2.2.2.2.2.2.2.2.2.1 t_78.2.2.2.2.2.2.2.2.2.2.2.2.2.2.2.2.2.2.2.2.2.2.2.2.2.2.2.2.2.2.1 t_78.2.2.2.2.2.2.2.2.2.2.2.2.2.2.2.2.2.2.2.2.2.2.2.2.2.2.2.2.2.2.2) fun t_106 =>
  Option.bind (gath_Gather_Take.f t_106.2.2.1 t_106.2.2.2.1 t_106.2.2.2.2.1 t_106.2.2.2.2.2.1 t_106.2.2.2.2.2.2.1 t_106.2.2.2.2.2.2.2.1 t_106.2.2.2.2.2.2.2.2.1 t_106.2.2.2.2.2.2.2.2.2.1 t_106.2.2.2.2.2.2.2.2.2.2.1 t_106.2.2.2.2.2.2.2.2.2.2.2.1 t_106.2.2.2.2.2.2.2.2.2.2.2.2.1 t_106.2.2.2.2.2.2.2.2.2.2.2.2.2.1 t_106.2.2.2.2.2.2.2.2.2.2.2.2.2.2.1 t_106.2.2.2.2.2.2.2.2.2.2.2.2.2.2.2.1 t_106.2.2.2.2.2.2.2.2.2.2.2.2.2.2.2.2.1 t_106.2.2.2.2.2.2.2.2.2.2.2.2.2.2.2.2.2.1 t_106.2.2.2.2.2.2.2.2.2.2.2.2.2.2.2.2.2.2.1 t_106.2.2.2.2.2.2.2.2.2.2.2.2.2.2.2.2.2.2.2.1 t_106.2.2.2.2.2.2.2.2.2.2.2.2.2.2.2.2.2.2.2.2.1 t_106.2.2.2.2.2.2.2.2.2.2.2.2.2.2.2.2.2.2.2.2.2.1 t_106.2.2.2.2.2.2.2.2.2.2.2.2.2.2.2.2.2.2.2.2.2.2.1 t_106.2.2.2.2.2.2.2.2.2.2.2.2.2.2.2.2.2.2.2.2.2.2.2.1 t_106.2.2.2.2.2.2.2.2.2.2.2.2.2.2.2.2.2.2.2.2.2.2.2.2.1 t_106.2.2.2.2.2.2.2.2.2.2.2.2.2.2.2.2.2.2.2.2.2.2.2.2.2.1 t_106.2.2.2.2.2.2.2.2.2.2.2.2.2.2.2.2.2.2.2.2.2.2.2.2.2.2.1 t_106.2.2.2.2.2.2.2.2.2.2.2.2.2.2.2.2.2.2.2.2.2.2.2.2.2.2.2.1 t_106.2.2.2.2.2.2.2.2.2.2.2.2.2.2.2.2.2.2.2.2.2.2.2.2.2.2.2.2.1 t_106.2.2.2.2.2.2.2.2.2.2.2.2.2.2.2.2.2.2.2.2.2.2.2.2.2.2.2.2.2.1 t_106.2.2.2.2.2.2.2.2.2.2.2.2.2.2.2.2.2.2.2.2.2.2.2.2.2.2.2.2.2.2.1 t_106.2.2.2.2.2.2.2.2.2.2.2.2.2.2.2.2.2.2.2.2.2.2.2.2.2.2.2.2.2.2.2.1 t_106.2.2.2.2.2.2.2.2.2.2.2.2.2.2.2.2.2.2.2.2.2.2.2.2.2.2.2.2.2.2.2.2 (⟨2, 2, 0, 9, 0, 0, false, 0, 0, 0, 0, ([] : List UInt8), 0, 0, ([] : List Int), ([] : List Int), 0, (⟨0, 0, (⟨0, 0, ([] : List UInt8), ([] : List UInt8), ([] : List UInt8)⟩ : api_Cmd)⟩ : api_Entry)⟩ : api_Msg)) fun t_141 =>
  Option.bind (gath_Gather_Ready.f K t_141.2.1 t_141.2.2.1 t_141.2.2.2.1 t_141.2.2.2.2.1 t_141.2.2.2.2.2.1 t_141.2.2.2.2.2.2.1 t_141.2.2.2.2.2.2.2.1 t_141.2.2.2.2.2.2.2.2.1 t_141.2.2.2.2.2.2.2.2.2.1 t_141.2.2.2.2.2.2.2.2.2.2.1 t_141.2.2.2.2.2.2.2.2.2.2.2.1 t_141.2.2.2.2.2.2.2.2.2.2.2.2.1 t_141.2.2.2.2.2.2.2.2.2.2.2.2.2.1 t_141.2.2.2.2.2.2.2.2.2.2.2.2.2.2.1 t_141.2.2.2.2.2.2.2.2.2.2.2.2.2.2.2.1 t_141.2.2.2.2.2.2.2.2.2.2.2.2.2.2.2.2.1 t_141.2.2.2.2.2.2.2.2.2.2.2.2.2.2.2.2.2.1 t_141.2.2.2.2.2.2.2.2.2.2.2.2.2.2.2.2.2.2.1 t_141.2.2.2.2.2.2.2.2.2.2.2.2.2.2.2.2.2.2.2.1 t_141.2.2.2.2.2.2.2.2.2.2.2.2.2.2.2.2.2.2.2.2.1 t_141.2.2.2.2.2.2.2.2.2.2.2.2.2.2.2.2.2.2.2.2.2.1 t_141.2.2.2.2.2.2.2.2.2.2.2.2.2.2.2.2.2.2.2.2.2.2.1 t_141.2.2.2.2.2.2.2.2.2.2.2.2.2.2.2.2.2.2.2.2.2.2.2.1 t_141.2.2.2.2.2.2.2.2.2.2.2.2.2.2.2.2.2.2.2.2.2.2.2.2.1 t_141.2.2.2.2.2.2.2.2.2.2.2.2.2.2.2.2.2.2.2.2.2.2.2.2.2.1 t_141.2.2.2.2.2.2.2.2.2.2.2.2.2.2.2.2.2.2.2.2.2.2.2.2.2.2.1 t_141.2.2.2.2.2.2.2.2.2.2.2.2.2.2.2.2.2.2.2.2.2.2.2.2.2.2.2.1 t_141.2.2.2.2.2.2.2.2.2.2.2.2.2.2.2.2.2.2.2.2.2.2.2.2.2.2.2.2.1 t_141.2.2.2.2.2.2.2.2.2.2.2.2.2.2.2.2.2.2.2.2.2.2.2.2.2.2.2.2.2.1 t_141.2.2.2.2.2.2.2.2.2.2.2.2.2.2.2.2.2.2.2.2.2.2.2.2.2.2.2.2.2.2.1 t_141.2.2.2.2.2.2.2.2.2.2.2.2.2.2.2.2.2.2.2.2.2.2.2.2.2.2.2.2.2.2.2 0) fun t_161 =>
  Option.bind (gath_Gather_Ready.f K t_161.2.1 t_161.2.2.1 t_161.2.2.2.1 t_161.2.2.2.2.1 t_161.2.2.2.2.2.1 t_161.2.2.2.2.2.2.1 t_161.2.2.2.2.2.2.2.1 t_161.2.2.2.2.2.2.2.2.1 t_161.2.2.2.2.2.2.2.2.2.1 t_161.2.2.2.2.2.2.2.2.2.2.1 t_161.2.2.2.2.2.2.2.2.2.2.2.1 t_161.2.2.2.2.2.2.2.2.2.2.2.2.1 t_161.2.2.2.2.2.2.2.2.2.2.2.2.2.1 t_161.2.2.2.2.2.2.2.2.2.2.2.2.2.2.1 t_161.2.2.2.2.2.2.2.2.2.2.2.2.2.2.2.1 t_161.2.2.2.2.2.2.2.2.2.2.2.2.2.2.2.2.1 t_161.2.2.2.2.2.2.2.2.2.2.2.2.2.2.2.2.2.1 t_161.2.2.2.2.2.2.2.2.2.2.2.2.2.2.2.2.2.2.1 t_161.2.2.2.2.2.2.2.2.2.2.2.2.2.2.2.2.2.2.2.1 t_161.2.2.2.2.2.2.2.2.2.2.2.2.2.2.2.2.2.2.2.2.1 t_161.2.2.2.2.2.2.2.2.2.2.2.2.2.2.2.2.2.2.2.2.2.1 t_161.2.2.2.2.2.2.2.2.2.2.2.2.2.2.2.2.2.2.2.2.2.2.1 t_161.2.2.2.2.2.2.2.2.2.2.2.2.2.2.2.2.2.2.2.2.2.2.2.1 t_161.2.2.2.2.2.2.2.2.2.2.2.2.2.2.2.2.2.2.2.2.2.2.2.2.1 t_161.2.2.2.2.2.2.2.2.2.2.2.2.2.2.2.2.2.2.2.2.2.2.2.2.2.1 t_161.2.2.2.2.2.2.2.2.2.2.2.2.2.2.2.2.2.2.2.2.2.2.2.2.2.2.1 t_161.2.2.2.2.2.2.2.2.2.2.2.2.2.2.2.2.2.2.2.2.2.2.2.2.2.2.2.1 t_161.2.2.2.2.2.2.2.2.2.2.2.2.2.2.2.2.2.2.2.2.2.2.2.2.2.2.2.2.1 t_161.2.2.2.2.2.2.2.2.2.2.2.2.2.2.2.2.2.2.2.2.2.2.2.2.2.2.2.2.2.1 t_161.2.2.2.2.2.2.2.2.2.2.2.2.2.2.2.2.2.2.2.2.2.2.2.2.2.2.2.2.2.2.1 t_161.2.2.2.2.2.2.2.2.2.2.2.2.2.2.2.2.2.2.2.2.2.2.2.2.2.2.2.2.2.2.2 2) fun t_181 =>
  Option.bind (gath_Gather_Unready.f K t_181.2.1 t_181.2.2.1 t_181.2.2.2.1 t_181.2.2.2.2.1 t_181.2.2.2.2.2.1 t_181.2.2.2.2.2.2.1 t_181.2.2.2.2.2.2.2.1 t_181.2.2.2.2.2.2.2.2.1 t_181.2.2.2.2.2.2.2.2.2.1 t_181.2.2.2.2.2.2.2.2.2.2.1 t_181.2.2.2.2.2.2.2.2.2.2.2.1 t_181.2.2.2.2.2.2.2.2.2.2.2.2.1 t_181.2.2.2.2.2.2.2.2.2.2.2.2.2.1 t_181.2.2.2.2.2.2.2.2.2.2.2.2.2.2.1 t_181.2.2.2.2.2.2.2.2.2.2.2.2.2.2.2.1 t_181.2.2.2.2.2.2.2.2.2.2.2.2.2.2.2.2.1 t_181.2.2.2.2.2.2.2.2.2.2.2.2.2.2.2.2.2.1 t_181.2.2.2.2.2.2.2.2.2.2.2.2.2.2.2.2.2.2.1 t_181.2.2.2.2.2.2.2.2.2.2.2.2.2.2.2.2.2.2.2.1 t_181.2.2.2.2.2.2.2.2.2.2.2.2.2.2.2.2.2.2.2.2.1 t_181.2.2.2.2.2.2.2.2.2.2.2.2.2.2.2.2.2.2.2.2.2.1 t_181.2.2.2.2.2.2.2.2.2.2.2.2.2.2.2.2.2.2.2.2.2.2.1 t_181.2.2.2.2.2.2.2.2.2.2.2.2.2.2.2.2.2.2.2.2.2.2.2.1 t_181.2.2.2.2.2.2.2.2.2.2.2.2.2.2.2.2.2.2.2.2.2.2.2.2.1 t_181.2.2.2.2.2.2.2.2.2.2.2.2.2.2.2.2.2.2.2.2.2.2.2.2.2.1 t_181.2.2.2.2.2.2.2.2.2.2.2.2.2.2.2.2.2.2.2.2.2.2.2.2.2.2.1 t_181.2.2.2.2.2.2.2.2.2.2.2.2.2.2.2.2.2.2.2.2.2.2.2.2.2.2.2.1 t_181.2.2.2.2.2.2.2.2.2.2.2.2.2.2.2.2.2.2.2.2.2.2.2.2.2.2.2.2.1 t_181.2.2.2.2.2.2.2.2.2.2.2.2.2.2.2.2.2.2.2.2.2.2.2.2.2.2.2.2.2.1 t_181.2.2.2.2.2.2.2.2.2.2.2.2.2.2.2.2.2.2.2.2.2.2.2.2.2.2.2.2.2.2.1 t_181.2.2.2.2.2.2.2.2.2.2.2.2.2.2.2.2.2.2.2.2.2.2.2.2.2.2.2.2.2.2.2) fun t_201 =>
  Option.bind (gath_Gather_Ready.f K t_181.2.1 t_181.2.2.1 t_181.2.2.2.1 t_181.2.2.2.2.1 t_181.2.2.2.2.2.1 t_181.2.2.2.2.2.2.1 t_181.2.2.2.2.2.2.2.1 t_181.2.2.2.2.2.2.2.2.1 t_181.2.2.2.2.2.2.2.2.2.1 t_181.2.2.2.2.2.2.2.2.2.2.1 t_181.2.2.2.2.2.2.2.2.2.2.2.1 t_181.2.2.2.2.2.2.2.2.2.2.2.2.1 t_181.2.2.2.2.2.2.2.2.2.2.2.2.2.1 t_181.2.2.2.2.2.2.2.2.2.2.2.2.2.2.1 t_181.2.2.2.2.2.2.2.2.2.2.2.2.2.2.2.1 t_181.2.2.2.2.2.2.2.2.2.2.2.2.2.2.2.2.1 t_181.2.2.2.2.2.2.2.2.2.2.2.2.2.2.2.2.2.1 t_181.2.2.2.2.2.2.2.2.2.2.2.2.2.2.2.2.2.2.1 t_181.2.2.2.2.2.2.2.2.2.2.2.2.2.2.2.2.2.2.2.1 t_181.2.2.2.2.2.2.2.2.2.2.2.2.2.2.2.2.2.2.2.2.1 t_181.2.2.2.2.2.2.2.2.2.2.2.2.2.2.2.2.2.2.2.2.2.1 t_181.2.2.2.2.2.2.2.2.2.2.2.2.2.2.2.2.2.2.2.2.2.2.1 t_181.2.2.2.2.2.2.2.2.2.2.2.2.2.2.2.2.2.2.2.2.2.2.2.1 t_181.2.2.2.2.2.2.2.2.2.2.2.2.2.2.2.2.2.2.2.2.2.2.2.2.1 t_181.2.2.2.2.2.2.2.2.2.2.2.2.2.2.2.2.2.2.2.2.2.2.2.2.2.1 t_181.2.2.2.2.2.2.2.2.2.2.2.2.2.2.2.2.2.2.2.2.2.2.2.2.2.2.1 t_181.2.2.2.2.2.2.2.2.2.2.2.2.2.2.2.2.2.2.2.2.2.2.2.2.2.2.2.1 t_181.2.2.2.2.2.2.2.2.2.2.2.2.2.2.2.2.2.2.2.2.2.2.2.2.2.2.2.2.1 t_181.2.2.2.2.2.2.2.2.2.2.2.2.2.2.2.2.2.2.2.2.2.2.2.2.2.2.2.2.2.1 t_181.2.2.2.2.2.2.2.2.2.2.2.2.2.2.2.2.2.2.2.2.2.2.2.2.2.2.2.2.2.2.1 t_181.2.2.2.2.2.2.2.2.2.2.2.2.2.2.2.2.2.2.2.2.2.2.2.2.2.2.2.2.2.2.2 1) fun t_209 =>
  if t_23.2.1 = true then (
  none)
  else (
  if t_58.1 = true then (
  if t_78.1 = true then (
  none)
  else (
  Option.bind (hocketref1_SameInts.f K t_98 ([2] : List Int)) fun t_239 =>
  if t_239 = true then (
  if t_106.2.1 = true then (
  if t_106.1.Kind = 3 then (
  if t_106.1.Members = 3 then (
  if t_106.1.Source = 0 then (
  if t_106.1.From = 1 then (
  if t_106.1.View = 9 then (
  if t_141.1 = true then (
  none)
  else (
  if t_161.1 = true then (
  if t_181.1 = true then (
  none)
  else (
  Option.bind (hocketref1_SameInts.f K t_201 ([1] : List Int)) fun t_259 =>
  if t_259 = true then (
  if t_209.1 = true then (
  Option.bind (gath_Gather_Done.f K t_209.2.1 t_209.2.2.1 t_209.2.2.2.1 t_209.2.2.2.2.1 t_209.2.2.2.2.2.1 t_209.2.2.2.2.2.2.1 t_209.2.2.2.2.2.2.2.1 t_209.2.2.2.2.2.2.2.2.1 t_209.2.2.2.2.2.2.2.2.2.1 t_209.2.2.2.2.2.2.2.2.2.2.1 t_209.2.2.2.2.2.2.2.2.2.2.2.1 t_209.2.2.2.2.2.2.2.2.2.2.2.2.1 t_209.2.2.2.2.2.2.2.2.2.2.2.2.2.1 t_209.2.2.2.2.2.2.2.2.2.2.2.2.2.2.1 t_209.2.2.2.2.2.2.2.2.2.2.2.2.2.2.2.1 t_209.2.2.2.2.2.2.2.2.2.2.2.2.2.2.2.2.1 t_209.2.2.2.2.2.2.2.2.2.2.2.2.2.2.2.2.2.1 t_209.2.2.2.2.2.2.2.2.2.2.2.2.2.2.2.2.2.2.1 t_209.2.2.2.2.2.2.2.2.2.2.2.2.2.2.2.2.2.2.2.1 t_209.2.2.2.2.2.2.2.2.2.2.2.2.2.2.2.2.2.2.2.2.1 t_209.2.2.2.2.2.2.2.2.2.2.2.2.2.2.2.2.2.2.2.2.2.1 t_209.2.2.2.2.2.2.2.2.2.2.2.2.2.2.2.2.2.2.2.2.2.2.1 t_209.2.2.2.2.2.2.2.2.2.2.2.2.2.2.2.2.2.2.2.2.2.2.2.1 t_209.2.2.2.2.2.2.2.2.2.2.2.2.2.2.2.2.2.2.2.2.2.2.2.2.1 t_209.2.2.2.2.2.2.2.2.2.2.2.2.2.2.2.2.2.2.2.2.2.2.2.2.2.1 t_209.2.2.2.2.2.2.2.2.2.2.2.2.2.2.2.2.2.2.2.2.2.2.2.2.2.2.1 t_209.2.2.2.2.2.2.2.2.2.2.2.2.2.2.2.2.2.2.2.2.2.2.2.2.2.2.2.1 t_209.2.2.2.2.2.2.2.2.2.2.2.2.2.2.2.2.2.2.2.2.2.2.2.2.2.2.2.2.1 t_209.2.2.2.2.2.2.2.2.2.2.2.2.2.2.2.2.2.2.2.2.2.2.2.2.2.2.2.2.2.1 t_209.2.2.2.2.2.2.2.2.2.2.2.2.2.2.2.2.2.2.2.2.2.2.2.2.2.2.2.2.2.2.1 t_209.2.2.2.2.2.2.2.2.2.2.2.2.2.2.2.2.2.2.2.2.2.2.2.2.2.2.2.2.2.2.2) fun t_265 =>
  if t_265 = true then (
  Option.bind (gath_Gather_All.f K t_209.2.1 t_209.2.2.1 t_209.2.2.2.1 t_209.2.2.2.2.1 t_209.2.2.2.2.2.1 t_209.2.2.2.2.2.2.1 t_209.2.2.2.2.2.2.2.1 t_209.2.2.2.2.2.2.2.2.1 t_209.2.2.2.2.2.2.2.2.2.1 t_209.2.2.2.2.2.2.2.2.2.2.1 t_209.2.2.2.2.2.2.2.2.2.2.2.1 t_209.2.2.2.2.2.2.2.2.2.2.2.2.1 t_209.2.2.2.2.2.2.2.2.2.2.2.2.2.1 t_209.2.2.2.2.2.2.2.2.2.2.2.2.2.2.1 t_209.2.2.2.2.2.2.2.2.2.2.2.2.2.2.2.1 t_209.2.2.2.2.2.2.2.2.2.2.2.2.2.2.2.2.1 t_209.2.2.2.2.2.2.2.2.2.2.2.2.2.2.2.2.2.1 t_209.2.2.2.2.2.2.2.2.2.2.2.2.2.2.2.2.2.2.1 t_209.2.2.2.2.2.2.2.2.2.2.2.2.2.2.2.2.2.2.2.1 t_209.2.2.2.2.2.2.2.2.2.2.2.2.2.2.2.2.2.2.2.2.1 t_209.2.2.2.2.2.2.2.2.2.2.2.2.2.2.2.2.2.2.2.2.2.1 t_209.2.2.2.2.2.2.2.2.2.2.2.2.2.2.2.2.2.2.2.2.2.2.1 t_209.2.2.2.2.2.2.2.2.2.2.2.2.2.2.2.2.2.2.2.2.2.2.2.1 t_209.2.2.2.2.2.2.2.2.2.2.2.2.2.2.2.2.2.2.2.2.2.2.2.2.1 t_209.2.2.2.2.2.2.2.2.2.2.2.2.2.2.2.2.2.2.2.2.2.2.2.2.2.1 t_209.2.2.2.2.2.2.2.2.2.2.2.2.2.2.2.2.2.2.2.2.2.2.2.2.2.2.1 t_209.2.2.2.2.2.2.2.2.2.2.2.2.2.2.2.2.2.2.2.2.2.2.2.2.2.2.2.1 t_209.2.2.2.2.2.2.2.2.2.2.2.2.2.2.2.2.2.2.2.2.2.2.2.2.2.2.2.2.1 t_209.2.2.2.2.2.2.2.2.2.2.2.2.2.2.2.2.2.2.2.2.2.2.2.2.2.2.2.2.2.1 t_209.2.2.2.2.2.2.2.2.2.2.2.2.2.2.2.2.2.2.2.2.2.2.2.2.2.2.2.2.2.2.1 t_209.2.2.2.2.2.2.2.2.2.2.2.2.2.2.2.2.2.2.2.2.2.2.2.2.2.2.2.2.2.2.2) fun t_270 =>
  if t_270 = true then (
  none)
  else (
  some ()))
  else (
  none))
  else (
  none))
  else (
  none)))
  else (
  none)))
  else (
  none))
  else (
  none))
  else (
  none))
  else (
  none))
  else (
  none))
  else (
  none))
  else (
  none)))
  else (
  none))

def hocketlaw18_GathPlays.J1 (K : Nat) : Option (Unit) :=
  Option.bind (hocketlaw18_awake.f K) fun t_58 =>
  some ()
def hocketlaw18_GathPlays.J4 (K : Nat) (again_98 : Int × gath_Gather × hocketref15_Gather → Option (Unit)) (x_63 : Int) (x_115 : gath_Gather) (x_132 : hocketref15_Gather) (x_153 : Bool) : Option (Unit) :=
  if x_153 = true then (
  none)
  else (
  again_98 (w64 (x_63 + 1), x_115, x_132))
def hocketlaw18_GathPlays.J3 (K : Nat) (again_98 : Int × gath_Gather × hocketref15_Gather → Option (Unit)) (x_63 : Int) (x_115 : gath_Gather) (x_132 : hocketref15_Gather) : Option (Unit) :=
  Option.bind (gath_Gather_Absent.f K x_115.n x_115.id x_115.v x_115.l x_115.come x_115.ready x_115.commit.Kind x_115.commit.From x_115.commit.To x_115.commit.View x_115.commit.Inst x_115.commit.Len x_115.commit.Has x_115.commit.Members x_115.commit.Source x_115.commit.At x_115.commit.Total x_115.commit.Data x_115.commit.Hop x_115.commit.Seq x_115.commit.Have x_115.commit.Need x_115.commit.Index x_115.commit.Entry.Sess x_115.commit.Entry.Seq x_115.commit.Entry.Cmd.Kind x_115.commit.Entry.Cmd.Who x_115.commit.Entry.Cmd.Key x_115.commit.Entry.Cmd.Val x_115.commit.Entry.Cmd.Old x_115.is) fun t_157 =>
  Option.bind (hocketref15_Gather_Absent.f K x_132.n x_132.id x_132.v x_132.l x_132.commit.Kind x_132.commit.From x_132.commit.To x_132.commit.View x_132.commit.Inst x_132.commit.Len x_132.commit.Has x_132.commit.Members x_132.commit.Source x_132.commit.At x_132.commit.Total x_132.commit.Data x_132.commit.Hop x_132.commit.Seq x_132.commit.Have x_132.commit.Need x_132.commit.Index x_132.commit.Entry.Sess x_132.commit.Entry.Seq x_132.commit.Entry.Cmd.Kind x_132.commit.Entry.Cmd.Who x_132.commit.Entry.Cmd.Key x_132.commit.Entry.Cmd.Val x_132.commit.Entry.Cmd.Old x_132.sure x_132.ready) fun t_165 =>
  Option.bind (hocketref1_SameInts.f K t_157 t_165) fun t_173 =>
  if t_173 = true then (
  Option.bind (gath_Gather_All.f K x_115.n x_115.id x_115.v x_115.l x_115.come x_115.ready x_115.commit.Kind x_115.commit.From x_115.commit.To x_115.commit.View x_115.commit.Inst x_115.commit.Len x_115.commit.Has x_115.commit.Members x_115.commit.Source x_115.commit.At x_115.commit.Total x_115.commit.Data x_115.commit.Hop x_115.commit.Seq x_115.commit.Have x_115.commit.Need x_115.commit.Index x_115.commit.Entry.Sess x_115.commit.Entry.Seq x_115.commit.Entry.Cmd.Kind x_115.commit.Entry.Cmd.Who x_115.commit.Entry.Cmd.Key x_115.commit.Entry.Cmd.Val x_115.commit.Entry.Cmd.Old x_115.is) fun t_178 =>
  Option.bind (hocketref15_Gather_Absent.f K x_132.n x_132.id x_132.v x_132.l x_132.commit.Kind x_132.commit.From x_132.commit.To x_132.commit.View x_132.commit.Inst x_132.commit.Len x_132.commit.Has x_132.commit.Members x_132.commit.Source x_132.commit.At x_132.commit.Total x_132.commit.Data x_132.commit.Hop x_132.commit.Seq x_132.commit.Have x_132.commit.Need x_132.commit.Index x_132.commit.Entry.Sess x_132.commit.Entry.Seq x_132.commit.Entry.Cmd.Kind x_132.commit.Entry.Cmd.Who x_132.commit.Entry.Cmd.Key x_132.commit.Entry.Cmd.Val x_132.commit.Entry.Cmd.Old x_132.sure x_132.ready) fun t_182 =>
  if t_178 = ((t_182.length : Int) == 0) then (
  Option.bind (gath_Gather_Unready.f K x_115.n x_115.id x_115.v x_115.l x_115.come x_115.ready x_115.commit.Kind x_115.commit.From x_115.commit.To x_115.commit.View x_115.commit.Inst x_115.commit.Len x_115.commit.Has x_115.commit.Members x_115.commit.Source x_115.commit.At x_115.commit.Total x_115.commit.Data x_115.commit.Hop x_115.commit.Seq x_115.commit.Have x_115.commit.Need x_115.commit.Index x_115.commit.Entry.Sess x_115.commit.Entry.Seq x_115.commit.Entry.Cmd.Kind x_115.commit.Entry.Cmd.Who x_115.commit.Entry.Cmd.Key x_115.commit.Entry.Cmd.Val x_115.commit.Entry.Cmd.Old x_115.is) fun t_191 =>
  Option.bind (hocketref15_Gather_Unready.f K x_132.n x_132.id x_132.v x_132.l x_132.commit.Kind x_132.commit.From x_132.commit.To x_132.commit.View x_132.commit.Inst x_132.commit.Len x_132.commit.Has x_132.commit.Members x_132.commit.Source x_132.commit.At x_132.commit.Total x_132.commit.Data x_132.commit.Hop x_132.commit.Seq x_132.commit.Have x_132.commit.Need x_132.commit.Index x_132.commit.Entry.Sess x_132.commit.Entry.Seq x_132.commit.Entry.Cmd.Kind x_132.commit.Entry.Cmd.Who x_132.commit.Entry.Cmd.Key x_132.commit.Entry.Cmd.Val x_132.commit.Entry.Cmd.Old x_132.sure x_132.ready) fun t_199 =>
  Option.bind (hocketref1_SameInts.f K t_191 t_199) fun t_207 =>
  if t_207 = true then (
  Option.bind (gath_Gather_Done.f K x_115.n x_115.id x_115.v x_115.l x_115.come x_115.ready x_115.commit.Kind x_115.commit.From x_115.commit.To x_115.commit.View x_115.commit.Inst x_115.commit.Len x_115.commit.Has x_115.commit.Members x_115.commit.Source x_115.commit.At x_115.commit.Total x_115.commit.Data x_115.commit.Hop x_115.commit.Seq x_115.commit.Have x_115.commit.Need x_115.commit.Index x_115.commit.Entry.Sess x_115.commit.Entry.Seq x_115.commit.Entry.Cmd.Kind x_115.commit.Entry.Cmd.Who x_115.commit.Entry.Cmd.Key x_115.commit.Entry.Cmd.Val x_115.commit.Entry.Cmd.Old x_115.is) fun t_212 =>
  Option.bind (hocketref15_Gather_Done.f x_132.n x_132.id x_132.v x_132.l x_132.commit.Kind x_132.commit.From x_132.commit.To x_132.commit.View x_132.commit.Inst x_132.commit.Len x_132.commit.Has x_132.commit.Members x_132.commit.Source x_132.commit.At x_132.commit.Total x_132.commit.Data x_132.commit.Hop x_132.commit.Seq x_132.commit.Have x_132.commit.Need x_132.commit.Index x_132.commit.Entry.Sess x_132.commit.Entry.Seq x_132.commit.Entry.Cmd.Kind x_132.commit.Entry.Cmd.Who x_132.commit.Entry.Cmd.Key x_132.commit.Entry.Cmd.Val x_132.commit.Entry.Cmd.Old x_132.sure x_132.ready) fun t_216 =>
  hocketlaw18_GathPlays.J4 K again_98 x_63 x_115 x_132 (!(t_212 == t_216)))
  else (
  hocketlaw18_GathPlays.J4 K again_98 x_63 x_115 x_132 true))
  else (
  hocketlaw18_GathPlays.J4 K again_98 x_63 x_115 x_132 true))
  else (
  hocketlaw18_GathPlays.J4 K again_98 x_63 x_115 x_132 true)
def hocketlaw18_GathPlays.J8 (K : Nat) (x_64 : gath_Gather) (x_81 : hocketref15_Gather) (again_98 : Int × gath_Gather × hocketref15_Gather → Option (Unit)) (x_63 : Int) (x_271 : api_Msg) : Option (Unit) :=
  Option.bind (gath_Gather_Take.f x_64.n x_64.id x_64.v x_64.l x_64.come x_64.ready x_64.commit.Kind x_64.commit.From x_64.commit.To x_64.commit.View x_64.commit.Inst x_64.commit.Len x_64.commit.Has x_64.commit.Members x_64.commit.Source x_64.commit.At x_64.commit.Total x_64.commit.Data x_64.commit.Hop x_64.commit.Seq x_64.commit.Have x_64.commit.Need x_64.commit.Index x_64.commit.Entry.Sess x_64.commit.Entry.Seq x_64.commit.Entry.Cmd.Kind x_64.commit.Entry.Cmd.Who x_64.commit.Entry.Cmd.Key x_64.commit.Entry.Cmd.Val x_64.commit.Entry.Cmd.Old x_64.is x_271) fun t_288 =>
  Option.bind (hocketref15_Gather_Take.f K x_81.n x_81.id x_81.v x_81.l x_81.commit.Kind x_81.commit.From x_81.commit.To x_81.commit.View x_81.commit.Inst x_81.commit.Len x_81.commit.Has x_81.commit.Members x_81.commit.Source x_81.commit.At x_81.commit.Total x_81.commit.Data x_81.commit.Hop x_81.commit.Seq x_81.commit.Have x_81.commit.Need x_81.commit.Index x_81.commit.Entry.Sess x_81.commit.Entry.Seq x_81.commit.Entry.Cmd.Kind x_81.commit.Entry.Cmd.Who x_81.commit.Entry.Cmd.Key x_81.commit.Entry.Cmd.Val x_81.commit.Entry.Cmd.Old x_81.sure x_81.ready x_271) fun t_315 =>
  if t_288.1 = t_315.1 then (
  hocketlaw18_GathPlays.J3 K again_98 x_63 (⟨t_288.2.1, t_288.2.2.1, t_288.2.2.2.1, t_288.2.2.2.2.1, t_288.2.2.2.2.2.1, t_288.2.2.2.2.2.2.1, (⟨t_288.2.2.2.2.2.2.2.1, t_288.2.2.2.2.2.2.2.2.1, t_288.2.2.2.2.2.2.2.2.2.1, t_288.2.2.2.2.2.2.2.2.2.2.1, t_288.2.2.2.2.2.2.2.2.2.2.2.1, t_288.2.2.2.2.2.2.2.2.2.2.2.2.1, t_288.2.2.2.2.2.2.2.2.2.2.2.2.2.1, t_288.2.2.2.2.2.2.2.2.2.2.2.2.2.2.1, t_288.2.2.2.2.2.2.2.2.2.2.2.2.2.2.2.1, t_288.2.2.2.2.2.2.2.2.2.2.2.2.2.2.2.2.1, t_288.2.2.2.2.2.2.2.2.2.2.2.2.2.2.2.2.2.1, t_288.2.2.2.2.2.2.2.2.2.2.2.2.2.2.2.2.2.2.1, t_288.2.2.2.2.2.2.2.2.2.2.2.2.2.2.2.2.2.2.2.1, t_288.2.2.2.2.2.2.2.2.2.2.2.2.2.2.2.2.2.2.2.2.1, t_288.2.2.2.2.2.2.2.2.2.2.2.2.2.2.2.2.2.2.2.2.2.1, t_288.2.2.2.2.2.2.2.2.2.2.2.2.2.2.2.2.2.2.2.2.2.2.1, t_288.2.2.2.2.2.2.2.2.2.2.2.2.2.2.2.2.2.2.2.2.2.2.2.1, (⟨t_288.2.2.2.2.2.2.2.2.2.2.2.2.2.2.2.2.2.2.2.2.2.2.2.2.1, t_288.2.2.2.2.2.2.2.2.2.2.2.2.2.2.2.2.2.2.2.2.2.2.2.2.2.1, (⟨t_288.2.2.2.2.2.2.2.2.2.2.2.2.2.2.2.2.2.2.2.2.2.2.2.2.2.2.1, t_288.2.2.2.2.2.2.2.2.2.2.2.2.2.2.2.2.2.2.2.2.2.2.2.2.2.2.2.1, t_288.2.2.2.2.2.2.2.2.2.2.2.2.2.2.2.2.2.2.2.2.2.2.2.2.2.2.2.2.1, t_288.2.2.2.2.2.2.2.2.2.2.2.2.2.2.2.2.2.2.2.2.2.2.2.2.2.2.2.2.2.1, t_288.2.2.2.2.2.2.2.2.2.2.2.2.2.2.2.2.2.2.2.2.2.2.2.2.2.2.2.2.2.2.1⟩ : api_Cmd)⟩ : api_Entry)⟩ : api_Msg), t_288.2.2.2.2.2.2.2.2.2.2.2.2.2.2.2.2.2.2.2.2.2.2.2.2.2.2.2.2.2.2.2⟩ : gath_Gather) (⟨t_315.2.1, t_315.2.2.1, t_315.2.2.2.1, t_315.2.2.2.2.1, (⟨t_315.2.2.2.2.2.1, t_315.2.2.2.2.2.2.1, t_315.2.2.2.2.2.2.2.1, t_315.2.2.2.2.2.2.2.2.1, t_315.2.2.2.2.2.2.2.2.2.1, t_315.2.2.2.2.2.2.2.2.2.2.1, t_315.2.2.2.2.2.2.2.2.2.2.2.1, t_315.2.2.2.2.2.2.2.2.2.2.2.2.1, t_315.2.2.2.2.2.2.2.2.2.2.2.2.2.1, t_315.2.2.2.2.2.2.2.2.2.2.2.2.2.2.1, t_315.2.2.2.2.2.2.2.2.2.2.2.2.2.2.2.1, t_315.2.2.2.2.2.2.2.2.2.2.2.2.2.2.2.2.1, t_315.2.2.2.2.2.2.2.2.2.2.2.2.2.2.2.2.2.1, t_315.2.2.2.2.2.2.2.2.2.2.2.2.2.2.2.2.2.2.1, t_315.2.2.2.2.2.2.2.2.2.2.2.2.2.2.2.2.2.2.2.1, t_315.2.2.2.2.2.2.2.2.2.2.2.2.2.2.2.2.2.2.2.2.1, t_315.2.2.2.2.2.2.2.2.2.2.2.2.2.2.2.2.2.2.2.2.2.1, (⟨t_315.2.2.2.2.2.2.2.2.2.2.2.2.2.2.2.2.2.2.2.2.2.2.1, t_315.2.2.2.2.2.2.2.2.2.2.2.2.2.2.2.2.2.2.2.2.2.2.2.1, (⟨t_315.2.2.2.2.2.2.2.2.2.2.2.2.2.2.2.2.2.2.2.2.2.2.2.2.1, t_315.2.2.2.2.2.2.2.2.2.2.2.2.2.2.2.2.2.2.2.2.2.2.2.2.2.1, t_315.2.2.2.2.2.2.2.2.2.2.2.2.2.2.2.2.2.2.2.2.2.2.2.2.2.2.1, t_315.2.2.2.2.2.2.2.2.2.2.2.2.2.2.2.2.2.2.2.2.2.2.2.2.2.2.2.1, t_315.2.2.2.2.2.2.2.2.2.2.2.2.2.2.2.2.2.2.2.2.2.2.2.2.2.2.2.2.1⟩ : api_Cmd)⟩ : api_Entry)⟩ : api_Msg), t_315.2.2.2.2.2.2.2.2.2.2.2.2.2.2.2.2.2.2.2.2.2.2.2.2.2.2.2.2.2.1, t_315.2.2.2.2.2.2.2.2.2.2.2.2.2.2.2.2.2.2.2.2.2.2.2.2.2.2.2.2.2.2⟩ : hocketref15_Gather))
  else (
  none)
def hocketlaw18_GathPlays.J7 (K : Nat) (x4 : List api_Msg) (x_63 : Int) (x_64 : gath_Gather) (x_81 : hocketref15_Gather) (again_98 : Int × gath_Gather × hocketref15_Gather → Option (Unit)) (x_229 : api_Msg) (t_257 : Int) (t_252 : Int) (x_267 : Bool) : Option (Unit) :=
  if x_267 = true then (
  Option.bind (ix x4 x_63) fun t_344 =>
  hocketlaw18_GathPlays.J8 K x_64 x_81 again_98 x_63 t_344)
  else (
  hocketlaw18_GathPlays.J8 K x_64 x_81 again_98 x_63 (⟨x_229.Kind, band .i64 (shr .i64 t_257 24) 7, x_229.To, w64 (9 + (w64 (Int.tdiv (band .i64 (shr .i64 t_252 20) 15) 15))), x_229.Inst, x_229.Len, x_229.Has, x_229.Members, x_229.Source, x_229.At, x_229.Total, x_229.Data, x_229.Hop, x_229.Seq, x_229.Have, x_229.Need, x_229.Index, x_229.Entry⟩ : api_Msg))
def hocketlaw18_GathPlays.J6 (K : Nat) (x3 : List Int) (x_63 : Int) (x4 : List api_Msg) (x_64 : gath_Gather) (x_81 : hocketref15_Gather) (again_98 : Int × gath_Gather × hocketref15_Gather → Option (Unit)) (x_229 : api_Msg) : Option (Unit) :=
  Option.bind (ix x3 x_63) fun t_252 =>
  Option.bind (ix x3 x_63) fun t_257 =>
  Option.bind (ix x3 x_63) fun t_365 =>
  if (band .i64 (shr .i64 t_365 27) 7) = 0 then (
  hocketlaw18_GathPlays.J7 K x4 x_63 x_64 x_81 again_98 x_229 t_257 t_252 (decide (x_63 < (x4.length : Int))))
  else (
  hocketlaw18_GathPlays.J7 K x4 x_63 x_64 x_81 again_98 x_229 t_257 t_252 false)
def hocketlaw18_GathPlays.J5 (K : Nat) (x3 : List Int) (x_63 : Int) (x4 : List api_Msg) (x_64 : gath_Gather) (x_81 : hocketref15_Gather) (again_98 : Int × gath_Gather × hocketref15_Gather → Option (Unit)) (t_109 : Int) (x_222 : Bool) : Option (Unit) :=
  if x_222 = true then (
  Option.bind (ix x3 x_63) fun t_372 =>
  Option.bind (ix x3 x_63) fun t_377 =>
  Option.bind (hocketlaw11_Msg.f K (bor .i64 (bandn .i64 t_372 7) 1) (shr .i64 t_377 5)) fun t_382 =>
  hocketlaw18_GathPlays.J6 K x3 x_63 x4 x_64 x_81 again_98 t_382)
  else (
  if (band .i64 t_109 7) = 4 then (
  Option.bind (gath_Gather_Commit.f K x_64.n x_64.id x_64.v x_64.l x_64.come x_64.ready x_64.commit.Kind x_64.commit.From x_64.commit.To x_64.commit.View x_64.commit.Inst x_64.commit.Len x_64.commit.Has x_64.commit.Members x_64.commit.Source x_64.commit.At x_64.commit.Total x_64.commit.Data x_64.commit.Hop x_64.commit.Seq x_64.commit.Have x_64.commit.Need x_64.commit.Index x_64.commit.Entry.Sess x_64.commit.Entry.Seq x_64.commit.Entry.Cmd.Kind x_64.commit.Entry.Cmd.Who x_64.commit.Entry.Cmd.Key x_64.commit.Entry.Cmd.Val x_64.commit.Entry.Cmd.Old x_64.is) fun t_433 =>
  Option.bind (hocketref15_Gather_Commit.f K x_81.n x_81.id x_81.v x_81.l x_81.commit.Kind x_81.commit.From x_81.commit.To x_81.commit.View x_81.commit.Inst x_81.commit.Len x_81.commit.Has x_81.commit.Members x_81.commit.Source x_81.commit.At x_81.commit.Total x_81.commit.Data x_81.commit.Hop x_81.commit.Seq x_81.commit.Have x_81.commit.Need x_81.commit.Index x_81.commit.Entry.Sess x_81.commit.Entry.Seq x_81.commit.Entry.Cmd.Kind x_81.commit.Entry.Cmd.Who x_81.commit.Entry.Cmd.Key x_81.commit.Entry.Cmd.Val x_81.commit.Entry.Cmd.Old x_81.sure x_81.ready) fun t_481 =>
  if t_433.2.1 = t_481.2.1 then (
  Option.bind (hocketref11_Same.f K t_433.1 t_481.1) fun t_531 =>
  if t_531 = true then (
  hocketlaw18_GathPlays.J3 K again_98 x_63 (⟨t_433.2.2.1, t_433.2.2.2.1, t_433.2.2.2.2.1, t_433.2.2.2.2.2.1, t_433.2.2.2.2.2.2.1, t_433.2.2.2.2.2.2.2.1, (⟨t_433.2.2.2.2.2.2.2.2.1, t_433.2.2.2.2.2.2.2.2.2.1, t_433.2.2.2.2.2.2.2.2.2.2.1, t_433.2.2.2.2.2.2.2.2.2.2.2.1, t_433.2.2.2.2.2.2.2.2.2.2.2.2.1, t_433.2.2.2.2.2.2.2.2.2.2.2.2.2.1, t_433.2.2.2.2.2.2.2.2.2.2.2.2.2.2.1, t_433.2.2.2.2.2.2.2.2.2.2.2.2.2.2.2.1, t_433.2.2.2.2.2.2.2.2.2.2.2.2.2.2.2.2.1, t_433.2.2.2.2.2.2.2.2.2.2.2.2.2.2.2.2.2.1, t_433.2.2.2.2.2.2.2.2.2.2.2.2.2.2.2.2.2.2.1, t_433.2.2.2.2.2.2.2.2.2.2.2.2.2.2.2.2.2.2.2.1, t_433.2.2.2.2.2.2.2.2.2.2.2.2.2.2.2.2.2.2.2.2.1, t_433.2.2.2.2.2.2.2.2.2.2.2.2.2.2.2.2.2.2.2.2.2.1, t_433.2.2.2.2.2.2.2.2.2.2.2.2.2.2.2.2.2.2.2.2.2.2.1, t_433.2.2.2.2.2.2.2.2.2.2.2.2.2.2.2.2.2.2.2.2.2.2.2.1, t_433.2.2.2.2.2.2.2.2.2.2.2.2.2.2.2.2.2.2.2.2.2.2.2.2.1, (⟨t_433.2.2.2.2.2.2.2.2.2.2.2.2.2.2.2.2.2.2.2.2.2.2.2.2.2.1, t_433.2.2.2.2.2.2.2.2.2.2.2.2.2.2.2.2.2.2.2.2.2.2.2.2.2.2.1, (⟨t_433.2.2.2.2.2.2.2.2.2.2.2.2.2.2.2.2.2.2.2.2.2.2.2.2.2.2.2.1, t_433.2.2.2.2.2.2.2.2.2.2.2.2.2.2.2.2.2.2.2.2.2.2.2.2.2.2.2.2.1, t_433.2.2.2.2.2.2.2.2.2.2.2.2.2.2.2.2.2.2.2.2.2.2.2.2.2.2.2.2.2.1, t_433.2.2.2.2.2.2.2.2.2.2.2.2.2.2.2.2.2.2.2.2.2.2.2.2.2.2.2.2.2.2.1, t_433.2.2.2.2.2.2.2.2.2.2.2.2.2.2.2.2.2.2.2.2.2.2.2.2.2.2.2.2.2.2.2.1⟩ : api_Cmd)⟩ : api_Entry)⟩ : api_Msg), t_433.2.2.2.2.2.2.2.2.2.2.2.2.2.2.2.2.2.2.2.2.2.2.2.2.2.2.2.2.2.2.2.2⟩ : gath_Gather) (⟨t_481.2.2.1, t_481.2.2.2.1, t_481.2.2.2.2.1, t_481.2.2.2.2.2.1, (⟨t_481.2.2.2.2.2.2.1, t_481.2.2.2.2.2.2.2.1, t_481.2.2.2.2.2.2.2.2.1, t_481.2.2.2.2.2.2.2.2.2.1, t_481.2.2.2.2.2.2.2.2.2.2.1, t_481.2.2.2.2.2.2.2.2.2.2.2.1, t_481.2.2.2.2.2.2.2.2.2.2.2.2.1, t_481.2.2.2.2.2.2.2.2.2.2.2.2.2.1, t_481.2.2.2.2.2.2.2.2.2.2.2.2.2.2.1, t_481.2.2.2.2.2.2.2.2.2.2.2.2.2.2.2.1, t_481.2.2.2.2.2.2.2.2.2.2.2.2.2.2.2.2.1, t_481.2.2.2.2.2.2.2.2.2.2.2.2.2.2.2.2.2.1, t_481.2.2.2.2.2.2.2.2.2.2.2.2.2.2.2.2.2.2.1, t_481.2.2.2.2.2.2.2.2.2.2.2.2.2.2.2.2.2.2.2.1, t_481.2.2.2.2.2.2.2.2.2.2.2.2.2.2.2.2.2.2.2.2.1, t_481.2.2.2.2.2.2.2.2.2.2.2.2.2.2.2.2.2.2.2.2.2.1, t_481.2.2.2.2.2.2.2.2.2.2.2.2.2.2.2.2.2.2.2.2.2.2.1, (⟨t_481.2.2.2.2.2.2.2.2.2.2.2.2.2.2.2.2.2.2.2.2.2.2.2.1, t_481.2.2.2.2.2.2.2.2.2.2.2.2.2.2.2.2.2.2.2.2.2.2.2.2.1, (⟨t_481.2.2.2.2.2.2.2.2.2.2.2.2.2.2.2.2.2.2.2.2.2.2.2.2.2.1, t_481.2.2.2.2.2.2.2.2.2.2.2.2.2.2.2.2.2.2.2.2.2.2.2.2.2.2.1, t_481.2.2.2.2.2.2.2.2.2.2.2.2.2.2.2.2.2.2.2.2.2.2.2.2.2.2.2.1, t_481.2.2.2.2.2.2.2.2.2.2.2.2.2.2.2.2.2.2.2.2.2.2.2.2.2.2.2.2.1, t_481.2.2.2.2.2.2.2.2.2.2.2.2.2.2.2.2.2.2.2.2.2.2.2.2.2.2.2.2.2.1⟩ : api_Cmd)⟩ : api_Entry)⟩ : api_Msg), t_481.2.2.2.2.2.2.2.2.2.2.2.2.2.2.2.2.2.2.2.2.2.2.2.2.2.2.2.2.2.2.1, t_481.2.2.2.2.2.2.2.2.2.2.2.2.2.2.2.2.2.2.2.2.2.2.2.2.2.2.2.2.2.2.2⟩ : hocketref15_Gather))
  else (
  none))
  else (
  none))
  else (
  Option.bind (ix x3 x_63) fun t_536 =>
  Option.bind (gath_Gather_Ready.f K x_64.n x_64.id x_64.v x_64.l x_64.come x_64.ready x_64.commit.Kind x_64.commit.From x_64.commit.To x_64.commit.View x_64.commit.Inst x_64.commit.Len x_64.commit.Has x_64.commit.Members x_64.commit.Source x_64.commit.At x_64.commit.Total x_64.commit.Data x_64.commit.Hop x_64.commit.Seq x_64.commit.Have x_64.commit.Need x_64.commit.Index x_64.commit.Entry.Sess x_64.commit.Entry.Seq x_64.commit.Entry.Cmd.Kind x_64.commit.Entry.Cmd.Who x_64.commit.Entry.Cmd.Key x_64.commit.Entry.Cmd.Val x_64.commit.Entry.Cmd.Old x_64.is (w64 ((band .i64 (shr .i64 t_536 3) 15) - 3))) fun t_541 =>
  Option.bind (hocketref15_Gather_Ready.f x_81.n x_81.id x_81.v x_81.l x_81.commit.Kind x_81.commit.From x_81.commit.To x_81.commit.View x_81.commit.Inst x_81.commit.Len x_81.commit.Has x_81.commit.Members x_81.commit.Source x_81.commit.At x_81.commit.Total x_81.commit.Data x_81.commit.Hop x_81.commit.Seq x_81.commit.Have x_81.commit.Need x_81.commit.Index x_81.commit.Entry.Sess x_81.commit.Entry.Seq x_81.commit.Entry.Cmd.Kind x_81.commit.Entry.Cmd.Who x_81.commit.Entry.Cmd.Key x_81.commit.Entry.Cmd.Val x_81.commit.Entry.Cmd.Old x_81.sure x_81.ready (w64 ((band .i64 (shr .i64 t_536 3) 15) - 3))) fun t_568 =>
  if t_541.1 = t_568.1 then (
  hocketlaw18_GathPlays.J3 K again_98 x_63 (⟨t_541.2.1, t_541.2.2.1, t_541.2.2.2.1, t_541.2.2.2.2.1, t_541.2.2.2.2.2.1, t_541.2.2.2.2.2.2.1, (⟨t_541.2.2.2.2.2.2.2.1, t_541.2.2.2.2.2.2.2.2.1, t_541.2.2.2.2.2.2.2.2.2.1, t_541.2.2.2.2.2.2.2.2.2.2.1, t_541.2.2.2.2.2.2.2.2.2.2.2.1, t_541.2.2.2.2.2.2.2.2.2.2.2.2.1, t_541.2.2.2.2.2.2.2.2.2.2.2.2.2.1, t_541.2.2.2.2.2.2.2.2.2.2.2.2.2.2.1, t_541.2.2.2.2.2.2.2.2.2.2.2.2.2.2.2.1, t_541.2.2.2.2.2.2.2.2.2.2.2.2.2.2.2.2.1, t_541.2.2.2.2.2.2.2.2.2.2.2.2.2.2.2.2.2.1, t_541.2.2.2.2.2.2.2.2.2.2.2.2.2.2.2.2.2.2.1, t_541.2.2.2.2.2.2.2.2.2.2.2.2.2.2.2.2.2.2.2.1, t_541.2.2.2.2.2.2.2.2.2.2.2.2.2.2.2.2.2.2.2.2.1, t_541.2.2.2.2.2.2.2.2.2.2.2.2.2.2.2.2.2.2.2.2.2.1, t_541.2.2.2.2.2.2.2.2.2.2.2.2.2.2.2.2.2.2.2.2.2.2.1, t_541.2.2.2.2.2.2.2.2.2.2.2.2.2.2.2.2.2.2.2.2.2.2.2.1, (⟨t_541.2.2.2.2.2.2.2.2.2.2.2.2.2.2.2.2.2.2.2.2.2.2.2.2.1, t_541.2.2.2.2.2.2.2.2.2.2.2.2.2.2.2.2.2.2.2.2.2.2.2.2.2.1, (⟨t_541.2.2.2.2.2.2.2.2.2.2.2.2.2.2.2.2.2.2.2.2.2.2.2.2.2.2.1, t_541.2.2.2.2.2.2.2.2.2.2.2.2.2.2.2.2.2.2.2.2.2.2.2.2.2.2.2.1, t_541.2.2.2.2.2.2.2.2.2.2.2.2.2.2.2.2.2.2.2.2.2.2.2.2.2.2.2.2.1, t_541.2.2.2.2.2.2.2.2.2.2.2.2.2.2.2.2.2.2.2.2.2.2.2.2.2.2.2.2.2.1, t_541.2.2.2.2.2.2.2.2.2.2.2.2.2.2.2.2.2.2.2.2.2.2.2.2.2.2.2.2.2.2.1⟩ : api_Cmd)⟩ : api_Entry)⟩ : api_Msg), t_541.2.2.2.2.2.2.2.2.2.2.2.2.2.2.2.2.2.2.2.2.2.2.2.2.2.2.2.2.2.2.2⟩ : gath_Gather) (⟨t_568.2.1, t_568.2.2.1, t_568.2.2.2.1, t_568.2.2.2.2.1, (⟨t_568.2.2.2.2.2.1, t_568.2.2.2.2.2.2.1, t_568.2.2.2.2.2.2.2.1, t_568.2.2.2.2.2.2.2.2.1, t_568.2.2.2.2.2.2.2.2.2.1, t_568.2.2.2.2.2.2.2.2.2.2.1, t_568.2.2.2.2.2.2.2.2.2.2.2.1, t_568.2.2.2.2.2.2.2.2.2.2.2.2.1, t_568.2.2.2.2.2.2.2.2.2.2.2.2.2.1, t_568.2.2.2.2.2.2.2.2.2.2.2.2.2.2.1, t_568.2.2.2.2.2.2.2.2.2.2.2.2.2.2.2.1, t_568.2.2.2.2.2.2.2.2.2.2.2.2.2.2.2.2.1, t_568.2.2.2.2.2.2.2.2.2.2.2.2.2.2.2.2.2.1, t_568.2.2.2.2.2.2.2.2.2.2.2.2.2.2.2.2.2.2.1, t_568.2.2.2.2.2.2.2.2.2.2.2.2.2.2.2.2.2.2.2.1, t_568.2.2.2.2.2.2.2.2.2.2.2.2.2.2.2.2.2.2.2.2.1, t_568.2.2.2.2.2.2.2.2.2.2.2.2.2.2.2.2.2.2.2.2.2.1, (⟨t_568.2.2.2.2.2.2.2.2.2.2.2.2.2.2.2.2.2.2.2.2.2.2.1, t_568.2.2.2.2.2.2.2.2.2.2.2.2.2.2.2.2.2.2.2.2.2.2.2.1, (⟨t_568.2.2.2.2.2.2.2.2.2.2.2.2.2.2.2.2.2.2.2.2.2.2.2.2.1, t_568.2.2.2.2.2.2.2.2.2.2.2.2.2.2.2.2.2.2.2.2.2.2.2.2.2.1, t_568.2.2.2.2.2.2.2.2.2.2.2.2.2.2.2.2.2.2.2.2.2.2.2.2.2.2.1, t_568.2.2.2.2.2.2.2.2.2.2.2.2.2.2.2.2.2.2.2.2.2.2.2.2.2.2.2.1, t_568.2.2.2.2.2.2.2.2.2.2.2.2.2.2.2.2.2.2.2.2.2.2.2.2.2.2.2.2.1⟩ : api_Cmd)⟩ : api_Entry)⟩ : api_Msg), t_568.2.2.2.2.2.2.2.2.2.2.2.2.2.2.2.2.2.2.2.2.2.2.2.2.2.2.2.2.2.1, t_568.2.2.2.2.2.2.2.2.2.2.2.2.2.2.2.2.2.2.2.2.2.2.2.2.2.2.2.2.2.2⟩ : hocketref15_Gather))
  else (
  none)))
def hocketlaw18_GathPlays.J2 (K : Nat) (x3 : List Int) (x_63 : Int) (x4 : List api_Msg) (x_64 : gath_Gather) (x_81 : hocketref15_Gather) (again_98 : Int × gath_Gather × hocketref15_Gather → Option (Unit)) (ex_98 : Unit → Option (Unit)) (x_103 : Bool) : Option (Unit) :=
  if x_103 = true then (
  Option.bind (ix x3 x_63) fun t_109 =>
  if (band .i64 t_109 7) = 0 then (
  hocketlaw18_GathPlays.J5 K x3 x_63 x4 x_64 x_81 again_98 t_109 ((band .i64 t_109 7) == 0))
  else (
  if (band .i64 t_109 7) = 1 then (
  hocketlaw18_GathPlays.J5 K x3 x_63 x4 x_64 x_81 again_98 t_109 ((band .i64 t_109 7) == 1))
  else (
  if (band .i64 t_109 7) = 2 then (
  hocketlaw18_GathPlays.J5 K x3 x_63 x4 x_64 x_81 again_98 t_109 ((band .i64 t_109 7) == 2))
  else (
  hocketlaw18_GathPlays.J5 K x3 x_63 x4 x_64 x_81 again_98 t_109 ((band .i64 t_109 7) == 3)))))
  else (
  ex_98 ())
def hocketlaw18_GathPlays.B1 (K : Nat) (x3 : List Int) (x4 : List api_Msg) (ex_98 : Unit → Option (Unit)) (again_98 : Int × gath_Gather × hocketref15_Gather → Option (Unit)) (x_63 : Int) (x_64 : gath_Gather) (x_81 : hocketref15_Gather) : Option (Unit) :=
  if x_63 < (x3.length : Int) then (
  hocketlaw18_GathPlays.J2 K x3 x_63 x4 x_64 x_81 again_98 ex_98 (decide (x_63 < 40)))
  else (
  hocketlaw18_GathPlays.J2 K x3 x_63 x4 x_64 x_81 again_98 ex_98 false)
def hocketlaw18_GathPlays.L1 (K : Nat) (x3 : List Int) (x4 : List api_Msg) (ex_98 : Unit → Option (Unit)) : Nat → Int × gath_Gather × hocketref15_Gather → Option (Unit) :=
  iter fun again v => hocketlaw18_GathPlays.B1 K x3 x4 ex_98 again v.1 v.2.1 v.2.2
def hocketlaw18_GathPlays.f (K : Nat) (x0 : Int) (x1 : Int) (x2 : api_Msg) (x3 : List Int) (x4 : List api_Msg) : Option (Unit) :=
  Option.bind (rem (band .i64 x1 255) (mx (w64 ((band .i64 x0 7) + 0)) 1)) fun t_3 =>
  Option.bind (gath_New.f (w64 ((band .i64 x0 7) + 0)) t_3 9 (⟨2, t_3, x2.To, 9, x2.Inst, x2.Len, x2.Has, x2.Members, x2.Source, x2.At, x2.Total, x2.Data, x2.Hop, x2.Seq, x2.Have, x2.Need, x2.Index, x2.Entry⟩ : api_Msg)) fun t_9 =>
  Option.bind (hocketref15_New.f (w64 ((band .i64 x0 7) + 0)) t_3 9 (⟨2, t_3, x2.To, 9, x2.Inst, x2.Len, x2.Has, x2.Members, x2.Source, x2.At, x2.Total, x2.Data, x2.Hop, x2.Seq, x2.Have, x2.Need, x2.Index, x2.Entry⟩ : api_Msg)) fun t_31 =>
  hocketlaw18_GathPlays.L1 K x3 x4 (fun v => hocketlaw18_GathPlays.J1 K) K (0, (⟨t_9.1, t_9.2.1, t_9.2.2.1, t_9.2.2.2.1, t_9.2.2.2.2.1, t_9.2.2.2.2.2.1, (⟨t_9.2.2.2.2.2.2.1, t_9.2.2.2.2.2.2.2.1, t_9.2.2.2.2.2.2.2.2.1, t_9.2.2.2.2.2.2.2.2.2.1, t_9.2.2.2.2.2.2.2.2.2.2.1, t_9.2.2.2.2.2.2.2.2.2.2.2.1, t_9.2.2.2.2.2.2.2.2.2.2.2.2.1, t_9.2.2.2.2.2.2.2.2.2.2.2.2.2.1, t_9.2.2.2.2.2.2.2.2.2.2.2.2.2.2.1, t_9.2.2.2.2.2.2.2.2.2.2.2.2.2.2.2.1, t_9.2.2.2.2.2.2.2.2.2.2.2.2.2.2.2.2.1, t_9.2.2.2.2.2.2.2.2.2.2.2.2.2.2.2.2.2.1, t_9.2.2.2.2.2.2.2.2.2.2.2.2.2.2.2.2.2.2.1, t_9.2.2.2.2.2.2.2.2.2.2.2.2.2.2.2.2.2.2.2.1, t_9.2.2.2.2.2.2.2.2.2.2.2.2.2.2.2.2.2.2.2.2.1, t_9.2.2.2.2.2.2.2.2.2.2.2.2.2.2.2.2.2.2.2.2.2.1, t_9.2.2.2.2.2.2.2.2.2.2.2.2.2.2.2.2.2.2.2.2.2.2.1, (⟨t_9.2.2.2.2.2.2.2.2.2.2.2.2.2.2.2.2.2.2.2.2.2.2.2.1, t_9.2.2.2.2.2.2.2.2.2.2.2.2.2.2.2.2.2.2.2.2.2.2.2.2.1, (⟨t_9.2.2.2.2.2.2.2.2.2.2.2.2.2.2.2.2.2.2.2.2.2.2.2.2.2.1, t_9.2.2.2.2.2.2.2.2.2.2.2.2.2.2.2.2.2.2.2.2.2.2.2.2.2.2.1, t_9.2.2.2.2.2.2.2.2.2.2.2.2.2.2.2.2.2.2.2.2.2.2.2.2.2.2.2.1, t_9.2.2.2.2.2.2.2.2.2.2.2.2.2.2.2.2.2.2.2.2.2.2.2.2.2.2.2.2.1, t_9.2.2.2.2.2.2.2.2.2.2.2.2.2.2.2.2.2.2.2.2.2.2.2.2.2.2.2.2.2.1⟩ : api_Cmd)⟩ : api_Entry)⟩ : api_Msg), t_9.2.2.2.2.2.2.2.2.2.2.2.2.2.2.2.2.2.2.2.2.2.2.2.2.2.2.2.2.2.2⟩ : gath_Gather), (⟨t_31.1, t_31.2.1, t_31.2.2.1, t_31.2.2.2.1, (⟨t_31.2.2.2.2.1, t_31.2.2.2.2.2.1, t_31.2.2.2.2.2.2.1, t_31.2.2.2.2.2.2.2.1, t_31.2.2.2.2.2.2.2.2.1, t_31.2.2.2.2.2.2.2.2.2.1, t_31.2.2.2.2.2.2.2.2.2.2.1, t_31.2.2.2.2.2.2.2.2.2.2.2.1, t_31.2.2.2.2.2.2.2.2.2.2.2.2.1, t_31.2.2.2.2.2.2.2.2.2.2.2.2.2.1, t_31.2.2.2.2.2.2.2.2.2.2.2.2.2.2.1, t_31.2.2.2.2.2.2.2.2.2.2.2.2.2.2.2.1, t_31.2.2.2.2.2.2.2.2.2.2.2.2.2.2.2.2.1, t_31.2.2.2.2.2.2.2.2.2.2.2.2.2.2.2.2.2.1, t_31.2.2.2.2.2.2.2.2.2.2.2.2.2.2.2.2.2.2.1, t_31.2.2.2.2.2.2.2.2.2.2.2.2.2.2.2.2.2.2.2.1, t_31.2.2.2.2.2.2.2.2.2.2.2.2.2.2.2.2.2.2.2.2.1, (⟨t_31.2.2.2.2.2.2.2.2.2.2.2.2.2.2.2.2.2.2.2.2.2.1, t_31.2.2.2.2.2.2.2.2.2.2.2.2.2.2.2.2.2.2.2.2.2.2.1, (⟨t_31.2.2.2.2.2.2.2.2.2.2.2.2.2.2.2.2.2.2.2.2.2.2.2.1, t_31.2.2.2.2.2.2.2.2.2.2.2.2.2.2.2.2.2.2.2.2.2.2.2.2.1, t_31.2.2.2.2.2.2.2.2.2.2.2.2.2.2.2.2.2.2.2.2.2.2.2.2.2.1, t_31.2.2.2.2.2.2.2.2.2.2.2.2.2.2.2.2.2.2.2.2.2.2.2.2.2.2.1, t_31.2.2.2.2.2.2.2.2.2.2.2.2.2.2.2.2.2.2.2.2.2.2.2.2.2.2.2.1⟩ : api_Cmd)⟩ : api_Entry)⟩ : api_Msg), t_31.2.2.2.2.2.2.2.2.2.2.2.2.2.2.2.2.2.2.2.2.2.2.2.2.2.2.2.2.1, t_31.2.2.2.2.2.2.2.2.2.2.2.2.2.2.2.2.2.2.2.2.2.2.2.2.2.2.2.2.2⟩ : hocketref15_Gather))
end Go.Gp
