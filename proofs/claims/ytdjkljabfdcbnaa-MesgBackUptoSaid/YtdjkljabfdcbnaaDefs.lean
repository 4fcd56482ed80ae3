/- The functions that the law reaches, told plainly. -/
import Derived.Test.YtdjkljabfdcbnaaLa
namespace Go.Gp
set_option linter.unusedVariables false
structure api_Cmd where
  Kind : Int
  Who : Int
  Key : List UInt8
  Val : List UInt8
  Old : List UInt8
  deriving DecidableEq
structure api_Entry where
  Sess : Int
  Seq : Int
  Cmd : api_Cmd
  deriving DecidableEq
structure api_Msg where
  Kind : Int
  From : Int
  To : Int
  View : Int
  Inst : Int
  Len : Int
  Has : Bool
  Members : Int
  Source : Int
  At : Int
  Total : Int
  Data : List UInt8
  Hop : Int
  Seq : Int
  Have : List Int
  Need : List Int
  Index : Int
  Entry : api_Entry
  deriving DecidableEq
structure pack_Reader where
  b : List UInt8
  bad : Bool
  deriving DecidableEq
structure An_m_ok where
  m : api_Msg
  ok : Bool
  deriving DecidableEq
structure hocketref1_Reader where
  B : List UInt8
  Bad : Bool
  deriving DecidableEq
def ok_api_Cmd (x : api_Cmd) : Prop := i64ok x.Kind ∧ i64ok x.Who ∧ (x.Key.length ≤ 140737488351232 ∧ ∀ z ∈ x.Key, True) ∧ (x.Val.length ≤ 140737488351232 ∧ ∀ z ∈ x.Val, True) ∧ (x.Old.length ≤ 140737488351232 ∧ ∀ z ∈ x.Old, True)
def ok_api_Entry (x : api_Entry) : Prop := i64ok x.Sess ∧ i64ok x.Seq ∧ ok_api_Cmd x.Cmd
def ok_api_Msg (x : api_Msg) : Prop := i64ok x.Kind ∧ i64ok x.From ∧ i64ok x.To ∧ i64ok x.View ∧ i64ok x.Inst ∧ i64ok x.Len ∧ True ∧ i64ok x.Members ∧ i64ok x.Source ∧ i64ok x.At ∧ i64ok x.Total ∧ (x.Data.length ≤ 140737488351232 ∧ ∀ z ∈ x.Data, True) ∧ i64ok x.Hop ∧ i64ok x.Seq ∧ (x.Have.length ≤ 140737488351232 ∧ ∀ z ∈ x.Have, i64ok z) ∧ (x.Need.length ≤ 140737488351232 ∧ ∀ z ∈ x.Need, i64ok z) ∧ i64ok x.Index ∧ ok_api_Entry x.Entry
def ok_pack_Reader (x : pack_Reader) : Prop := (x.b.length ≤ 140737488351232 ∧ ∀ z ∈ x.b, True) ∧ True
def ok_An_m_ok (x : An_m_ok) : Prop := ok_api_Msg x.m ∧ True
def ok_hocketref1_Reader (x : hocketref1_Reader) : Prop := (x.B.length ≤ 140737488351232 ∧ ∀ z ∈ x.B, True) ∧ True
def mesg_beyond.f (x0 : api_Msg) : Option (Bool) :=
  if (x0.Have.length : Int) > 7 then (
  if x0.Kind = 7 then (
  some true)
  else (
  if (x0.Need.length : Int) > 8 then (
  if (x0.Data.length : Int) > 64 then (
  some (x0.Kind == 5))
  else (
  some false))
  else (
  if (x0.Data.length : Int) > 64 then (
  some (x0.Kind == 5))
  else (
  some false))))
  else (
  if (x0.Need.length : Int) > 8 then (
  if x0.Kind = 7 then (
  some true)
  else (
  if (x0.Data.length : Int) > 64 then (
  some (x0.Kind == 5))
  else (
  some false)))
  else (
  if (x0.Data.length : Int) > 64 then (
  some (x0.Kind == 5))
  else (
  some false)))

def mesg_flag.f (x0 : Bool) : Option (Int) :=
  if x0 = true then (
  some 1)
  else (
  some 0)



def slices_Clone_sbyte_byte.f (x0 : List UInt8) : Option (List UInt8) :=
  app 140737488355328 ([] : List UInt8) x0

def pack_held.f (x0 : Int) : Option (Int) :=
  some (mn (mx x0 0) 4611686018427387904)

def pack_Num.J1 (K : Nat) (x_18 : Int) (x_19 : List UInt8) : Option ((List UInt8)) :=
  Option.bind (app 140737488355328 x_19 ([toU8 x_18] : List UInt8)) fun t_32 =>
  some t_32
def pack_Num.B1 (K : Nat) (ex_45 : Int × (List UInt8) → Option ((List UInt8))) (again_45 : Int × (List UInt8) → Option ((List UInt8))) (x_39 : Int) (x_40 : List UInt8) : Option ((List UInt8)) :=
  if x_39 ≥ 128 then (
  Option.bind (app 140737488355328 x_40 ([toU8 (bor .i64 (band .i64 x_39 127) 128)] : List UInt8)) fun t_55 =>
  again_45 (shr .i64 x_39 7, t_55))
  else (
  ex_45 (x_39, x_40))
def pack_Num.L1 (K : Nat) (ex_45 : Int × (List UInt8) → Option ((List UInt8))) : Nat → Int × (List UInt8) → Option ((List UInt8)) :=
  iter fun again v => pack_Num.B1 K ex_45 again v.1 v.2
def pack_Num.f (K : Nat) (x0 : List UInt8) (x1 : Int) : Option ((List UInt8)) :=
  Option.bind (slices_Clone_sbyte_byte.f x0) fun t_1 =>
  Option.bind (pack_held.f x1) fun t_13 =>
  pack_Num.L1 K (fun v => pack_Num.J1 K v.1 v.2) K (t_13, t_1)

def pack_Bytes.f (K : Nat) (x0 : List UInt8) (x1 : List UInt8) : Option ((List UInt8)) :=
  Option.bind (pack_Num.f K x0 (x1.length : Int)) fun t_1 =>
  Option.bind (app 140737488355328 t_1 x1) fun t_9 =>
  some t_9

def mesg_row.J1 (K : Nat) (x_11 : List UInt8) : Option ((List UInt8)) :=
  some x_11
def mesg_row.B1 (K : Nat) (x1 : List Int) (ex_25 : (List UInt8) → Option ((List UInt8))) (again_25 : (List UInt8) × Int → Option ((List UInt8))) (x_19 : List UInt8) (x_24 : Int) : Option ((List UInt8)) :=
  if x_24 < (x1.length : Int) then (
  Option.bind (ix x1 x_24) fun t_29 =>
  Option.bind (pack_Num.f K x_19 t_29) fun t_34 =>
  again_25 (t_34, w64 (x_24 + 1)))
  else (
  ex_25 x_19)
def mesg_row.L1 (K : Nat) (x1 : List Int) (ex_25 : (List UInt8) → Option ((List UInt8))) : Nat → (List UInt8) × Int → Option ((List UInt8)) :=
  iter fun again v => mesg_row.B1 K x1 ex_25 again v.1 v.2
def mesg_row.f (K : Nat) (x0 : List UInt8) (x1 : List Int) : Option ((List UInt8)) :=
  Option.bind (pack_Num.f K x0 (x1.length : Int)) fun t_1 =>
  mesg_row.L1 K x1 (fun v => mesg_row.J1 K v) K (t_1, 0)

def mach_PutEntry.J2 (K : Nat) (x_26 : List UInt8) : Option ((List UInt8)) :=
  some x_26
def mach_PutEntry.B1 (K : Nat) (x1 : api_Entry) (ex_40 : (List UInt8) → Option ((List UInt8))) (again_40 : (List UInt8) × Int → Option ((List UInt8))) (x_34 : List UInt8) (x_39 : Int) : Option ((List UInt8)) :=
  if x_39 < (([x1.Cmd.Key, x1.Cmd.Val, x1.Cmd.Old] : List (List UInt8)).length : Int) then (
  Option.bind (ix ([x1.Cmd.Key, x1.Cmd.Val, x1.Cmd.Old] : List (List UInt8)) x_39) fun t_44 =>
  Option.bind (pack_Bytes.f K x_34 t_44) fun t_51 =>
  again_40 (t_51, w64 (x_39 + 1)))
  else (
  ex_40 x_34)
def mach_PutEntry.L1 (K : Nat) (x1 : api_Entry) (ex_40 : (List UInt8) → Option ((List UInt8))) : Nat → (List UInt8) × Int → Option ((List UInt8)) :=
  iter fun again v => mach_PutEntry.B1 K x1 ex_40 again v.1 v.2
def mach_PutEntry.J1 (K : Nat) (x1 : api_Entry) (x_11 : List UInt8) : Option ((List UInt8)) :=
  mach_PutEntry.L1 K x1 (fun v => mach_PutEntry.J2 K v) K (x_11, 0)
def mach_PutEntry.B2 (K : Nat) (x1 : api_Entry) (ex_66 : (List UInt8) → Option ((List UInt8))) (again_66 : (List UInt8) × Int → Option ((List UInt8))) (x_60 : List UInt8) (x_65 : Int) : Option ((List UInt8)) :=
  if x_65 < (([x1.Sess, x1.Seq, x1.Cmd.Kind, x1.Cmd.Who] : List Int).length : Int) then (
  Option.bind (ix ([x1.Sess, x1.Seq, x1.Cmd.Kind, x1.Cmd.Who] : List Int) x_65) fun t_84 =>
  Option.bind (pack_Num.f K x_60 t_84) fun t_89 =>
  again_66 (t_89, w64 (x_65 + 1)))
  else (
  ex_66 x_60)
def mach_PutEntry.L2 (K : Nat) (x1 : api_Entry) (ex_66 : (List UInt8) → Option ((List UInt8))) : Nat → (List UInt8) × Int → Option ((List UInt8)) :=
  iter fun again v => mach_PutEntry.B2 K x1 ex_66 again v.1 v.2
def mach_PutEntry.f (K : Nat) (x0 : List UInt8) (x1 : api_Entry) : Option ((List UInt8)) :=
  Option.bind (ix ([x1.Sess, x1.Seq, x1.Cmd.Kind, x1.Cmd.Who] : List Int) 0) fun t_69 =>
  Option.bind (pack_Num.f K x0 t_69) fun t_74 =>
  mach_PutEntry.L2 K x1 (fun v => mach_PutEntry.J1 K x1 v) K (t_74, w64 (0 + 1))

def pack_Read.f (x0 : List UInt8) : Option ((List UInt8) × Bool) :=
  Option.bind (slices_Clone_sbyte_byte.f x0) fun t_1 =>
  some (t_1, false)

def pack_Reader_fail.f (x0_b : List UInt8) (x0_bad : Bool) : Option (Int × (List UInt8) × Bool) :=
  some (0, ([] : List UInt8), true)

def pack_Reader_Num.J1 (K : Nat) (x0_b : List UInt8) (x0_bad : Bool) : Option (Int × (List UInt8) × Bool) :=
  Option.bind (pack_Reader_fail.f x0_b x0_bad) fun t_5 =>
  some (t_5.1, t_5.2.1, t_5.2.2)
def pack_Reader_Num.J2 (K : Nat) (ex_15 : Unit → Option (Int × (List UInt8) × Bool)) (x_14 : Int) (t_19 : UInt8) (again_15 : Int × Int → Option (Int × (List UInt8) × Bool)) (x_13 : Int) (x1 : Int) (x0_b : List UInt8) (x0_bad : Bool) (x_27 : Bool) : Option (Int × (List UInt8) × Bool) :=
  if x_27 = true then (
  ex_15 ())
  else (
  Option.bind (must (0 ≤ (w64 (7 * x_14)))) fun u_31 =>
  if (t_19.toNat : Int) ≥ ((128 : UInt8).toNat : Int) then (
  again_15 (bor .i64 x_13 (shl .i64 ((t_19 &&& (127 : UInt8)).toNat : Int) (w64 (7 * x_14))), w64 (x_14 + 1)))
  else (
  Option.bind (pack_held.f x1) fun t_35 =>
  if (bor .i64 x_13 (shl .i64 ((t_19 &&& (127 : UInt8)).toNat : Int) (w64 (7 * x_14)))) > t_35 then (
  ex_15 ())
  else (
  Option.bind (cut x0_b (w64 (x_14 + 1)) (x0_b.length : Int)) fun t_40 =>
  some (bor .i64 x_13 (shl .i64 ((t_19 &&& (127 : UInt8)).toNat : Int) (w64 (7 * x_14))), t_40, x0_bad))))
def pack_Reader_Num.B1 (K : Nat) (x0_b : List UInt8) (x1 : Int) (x0_bad : Bool) (ex_15 : Unit → Option (Int × (List UInt8) × Bool)) (again_15 : Int × Int → Option (Int × (List UInt8) × Bool)) (x_13 : Int) (x_14 : Int) : Option (Int × (List UInt8) × Bool) :=
  if x_14 < (x0_b.length : Int) then (
  Option.bind (ix x0_b x_14) fun t_19 =>
  if x_14 > 8 then (
  pack_Reader_Num.J2 K ex_15 x_14 t_19 again_15 x_13 x1 x0_b x0_bad true)
  else (
  if (t_19.toNat : Int) = ((0 : UInt8).toNat : Int) then (
  pack_Reader_Num.J2 K ex_15 x_14 t_19 again_15 x_13 x1 x0_b x0_bad (decide (x_14 > 0)))
  else (
  pack_Reader_Num.J2 K ex_15 x_14 t_19 again_15 x_13 x1 x0_b x0_bad false)))
  else (
  ex_15 ())
def pack_Reader_Num.L1 (K : Nat) (x0_b : List UInt8) (x1 : Int) (x0_bad : Bool) (ex_15 : Unit → Option (Int × (List UInt8) × Bool)) : Nat → Int × Int → Option (Int × (List UInt8) × Bool) :=
  iter fun again v => pack_Reader_Num.B1 K x0_b x1 x0_bad ex_15 again v.1 v.2
def pack_Reader_Num.f (K : Nat) (x0_b : List UInt8) (x0_bad : Bool) (x1 : Int) : Option (Int × (List UInt8) × Bool) :=
  pack_Reader_Num.L1 K x0_b x1 x0_bad (fun v => pack_Reader_Num.J1 K x0_b x0_bad) K (0, 0)

def pack_Reader_Bytes.f (K : Nat) (x0_b : List UInt8) (x0_bad : Bool) (x1 : Int) : Option ((List UInt8) × (List UInt8) × Bool) :=
  Option.bind (pack_Reader_Num.f K x0_b x0_bad x1) fun t_1 =>
  if t_1.1 > (t_1.2.1.length : Int) then (
  Option.bind (pack_Reader_fail.f t_1.2.1 t_1.2.2) fun t_10 =>
  some (([] : List UInt8), t_10.2.1, t_10.2.2))
  else (
  Option.bind (cut t_1.2.1 0 t_1.1) fun t_18 =>
  Option.bind (slices_Clone_sbyte_byte.f t_18) fun t_21 =>
  Option.bind (cut t_1.2.1 t_1.1 (t_1.2.1.length : Int)) fun t_29 =>
  some (t_21, t_29, t_1.2.2))

def mesg_numbers.J1 (K : Nat) (x_10 : List Int) (x_15 : List UInt8) (x_18 : Bool) : Option ((List Int) × (List UInt8) × Bool) :=
  some (x_10, x_15, x_18)
def mesg_numbers.B1 (K : Nat) (t_2 : Int × (List UInt8) × Bool) (ex_32 : (List Int) × (List UInt8) × Bool → Option ((List Int) × (List UInt8) × Bool)) (again_32 : (List Int) × Int × (List UInt8) × Bool → Option ((List Int) × (List UInt8) × Bool)) (x_22 : List Int) (x_27 : Int) (x_28 : List UInt8) (x_31 : Bool) : Option ((List Int) × (List UInt8) × Bool) :=
  if x_27 < t_2.1 then (
  Option.bind (pack_Reader_Num.f K x_28 x_31 1099511627776) fun t_37 =>
  Option.bind (app 17592186044416 x_22 ([t_37.1] : List Int)) fun t_50 =>
  again_32 (t_50, w64 (x_27 + 1), t_37.2.1, t_37.2.2))
  else (
  ex_32 (x_22, x_28, x_31))
def mesg_numbers.L1 (K : Nat) (t_2 : Int × (List UInt8) × Bool) (ex_32 : (List Int) × (List UInt8) × Bool → Option ((List Int) × (List UInt8) × Bool)) : Nat → (List Int) × Int × (List UInt8) × Bool → Option ((List Int) × (List UInt8) × Bool) :=
  iter fun again v => mesg_numbers.B1 K t_2 ex_32 again v.1 v.2.1 v.2.2.1 v.2.2.2
def mesg_numbers.f (K : Nat) (x0_b : List UInt8) (x0_bad : Bool) (x1 : Int) : Option ((List Int) × (List UInt8) × Bool) :=
  Option.bind (pack_Reader_Num.f K x0_b x0_bad x1) fun t_2 =>
  mesg_numbers.L1 K t_2 (fun v => mesg_numbers.J1 K v.1 v.2.1 v.2.2) K (([] : List Int), 0, t_2.2.1, t_2.2.2)

def pack_Reader_Ok.f (x0_b : List UInt8) (x0_bad : Bool) : Option (Bool) :=
  some (!x0_bad)

def mach_GetEntry.f (K : Nat) (x0_b : List UInt8) (x0_bad : Bool) : Option (api_Entry × (List UInt8) × Bool) :=
  Option.bind (pack_Reader_Num.f K x0_b x0_bad 1073741824) fun t_3 =>
  Option.bind (pack_Reader_Num.f K t_3.2.1 t_3.2.2 1073741824) fun t_10 =>
  Option.bind (pack_Reader_Num.f K t_10.2.1 t_10.2.2 1073741824) fun t_20 =>
  Option.bind (pack_Reader_Num.f K t_20.2.1 t_20.2.2 1073741824) fun t_27 =>
  Option.bind (pack_Reader_Bytes.f K t_27.2.1 t_27.2.2 32) fun t_36 =>
  Option.bind (pack_Reader_Bytes.f K t_36.2.1 t_36.2.2 32) fun t_47 =>
  Option.bind (pack_Reader_Bytes.f K t_47.2.1 t_47.2.2 32) fun t_58 =>
  Option.bind (pack_Reader_Ok.f t_58.2.1 t_58.2.2) fun t_73 =>
  if t_73 = true then (
  some ((⟨t_3.1, t_10.1, (⟨t_20.1, t_27.1, t_36.1, t_47.1, t_58.1⟩ : api_Cmd)⟩ : api_Entry), t_58.2.1, t_58.2.2))
  else (
  some ((⟨0, 0, (⟨0, 0, ([] : List UInt8), ([] : List UInt8), ([] : List UInt8)⟩ : api_Cmd)⟩ : api_Entry), t_58.2.1, t_58.2.2))

def pack_Reader_End.f (x0_b : List UInt8) (x0_bad : Bool) : Option (Bool) :=
  if x0_bad = true then (
  some false)
  else (
  some ((x0_b.length : Int) == 0))

def mesg_read.J1 (K : Nat) (x_39 : pack_Reader) (x_42 : api_Msg) : Option (api_Msg × Bool) :=
  Option.bind (pack_Reader_End.f x_39.b x_39.bad) fun t_71 =>
  some (x_42, t_71)
def mesg_read.J2 (K : Nat) (t_28 : Int × (List UInt8) × Bool) (t_10 : Int × (List UInt8) × Bool) (t_16 : Int × (List UInt8) × Bool) (t_22 : Int × (List UInt8) × Bool) (x_78 : Bool) : Option (api_Msg × Bool) :=
  if x_78 = true then (
  mesg_read.J1 K (⟨t_28.2.1, t_28.2.2⟩ : pack_Reader) (⟨t_10.1, t_16.1, t_22.1, t_28.1, 0, 0, false, 0, 0, 0, 0, ([] : List UInt8), 0, 0, ([] : List Int), ([] : List Int), 0, (⟨0, 0, (⟨0, 0, ([] : List UInt8), ([] : List UInt8), ([] : List UInt8)⟩ : api_Cmd)⟩ : api_Entry)⟩ : api_Msg))
  else (
  if t_10.1 = 2 then (
  Option.bind (pack_Reader_Num.f K t_28.2.1 t_28.2.2 1099511627776) fun t_89 =>
  Option.bind (pack_Reader_Num.f K t_89.2.1 t_89.2.2 1099511627776) fun t_95 =>
  Option.bind (pack_Reader_Num.f K t_95.2.1 t_95.2.2 1) fun t_101 =>
  mesg_read.J1 K (⟨t_101.2.1, t_101.2.2⟩ : pack_Reader) (⟨t_10.1, t_16.1, t_22.1, t_28.1, t_89.1, t_95.1, (t_101.1 == 1), 0, 0, 0, 0, ([] : List UInt8), 0, 0, ([] : List Int), ([] : List Int), 0, (⟨0, 0, (⟨0, 0, ([] : List UInt8), ([] : List UInt8), ([] : List UInt8)⟩ : api_Cmd)⟩ : api_Entry)⟩ : api_Msg))
  else (
  if t_10.1 = 3 then (
  Option.bind (pack_Reader_Num.f K t_28.2.1 t_28.2.2 127) fun t_117 =>
  Option.bind (pack_Reader_Num.f K t_117.2.1 t_117.2.2 6) fun t_123 =>
  Option.bind (pack_Reader_Num.f K t_123.2.1 t_123.2.2 1099511627776) fun t_129 =>
  mesg_read.J1 K (⟨t_129.2.1, t_129.2.2⟩ : pack_Reader) (⟨t_10.1, t_16.1, t_22.1, t_28.1, 0, t_129.1, false, t_117.1, t_123.1, 0, 0, ([] : List UInt8), 0, 0, ([] : List Int), ([] : List Int), 0, (⟨0, 0, (⟨0, 0, ([] : List UInt8), ([] : List UInt8), ([] : List UInt8)⟩ : api_Cmd)⟩ : api_Entry)⟩ : api_Msg))
  else (
  if t_10.1 = 4 then (
  Option.bind (pack_Reader_Num.f K t_28.2.1 t_28.2.2 1099511627776) fun t_145 =>
  mesg_read.J1 K (⟨t_145.2.1, t_145.2.2⟩ : pack_Reader) (⟨t_10.1, t_16.1, t_22.1, t_28.1, 0, 0, false, 0, 0, t_145.1, 0, ([] : List UInt8), 0, 0, ([] : List Int), ([] : List Int), 0, (⟨0, 0, (⟨0, 0, ([] : List UInt8), ([] : List UInt8), ([] : List UInt8)⟩ : api_Cmd)⟩ : api_Entry)⟩ : api_Msg))
  else (
  if t_10.1 = 5 then (
  Option.bind (pack_Reader_Num.f K t_28.2.1 t_28.2.2 1099511627776) fun t_159 =>
  Option.bind (pack_Reader_Num.f K t_159.2.1 t_159.2.2 1099511627776) fun t_165 =>
  Option.bind (pack_Reader_Bytes.f K t_165.2.1 t_165.2.2 64) fun t_171 =>
  mesg_read.J1 K (⟨t_171.2.1, t_171.2.2⟩ : pack_Reader) (⟨t_10.1, t_16.1, t_22.1, t_28.1, 0, 0, false, 0, 0, t_159.1, t_165.1, t_171.1, 0, 0, ([] : List Int), ([] : List Int), 0, (⟨0, 0, (⟨0, 0, ([] : List UInt8), ([] : List UInt8), ([] : List UInt8)⟩ : api_Cmd)⟩ : api_Entry)⟩ : api_Msg))
  else (
  if t_10.1 = 7 then (
  Option.bind (pack_Reader_Num.f K t_28.2.1 t_28.2.2 1099511627776) fun t_190 =>
  Option.bind (pack_Reader_Num.f K t_190.2.1 t_190.2.2 1099511627776) fun t_196 =>
  Option.bind (mesg_numbers.f K t_196.2.1 t_196.2.2 7) fun t_204 =>
  Option.bind (mesg_numbers.f K t_204.2.1 t_204.2.2 8) fun t_214 =>
  mesg_read.J1 K (⟨t_214.2.1, t_214.2.2⟩ : pack_Reader) (⟨t_10.1, t_16.1, t_22.1, t_28.1, 0, 0, false, 0, 0, 0, 0, ([] : List UInt8), t_190.1, t_196.1, t_204.1, t_214.1, 0, (⟨0, 0, (⟨0, 0, ([] : List UInt8), ([] : List UInt8), ([] : List UInt8)⟩ : api_Cmd)⟩ : api_Entry)⟩ : api_Msg))
  else (
  if t_10.1 = 8 then (
  Option.bind (pack_Reader_Num.f K t_28.2.1 t_28.2.2 1099511627776) fun t_231 =>
  Option.bind (mach_GetEntry.f K t_231.2.1 t_231.2.2) fun t_237 =>
  mesg_read.J1 K (⟨t_237.2.1, t_237.2.2⟩ : pack_Reader) (⟨t_10.1, t_16.1, t_22.1, t_28.1, 0, 0, false, 0, 0, 0, 0, ([] : List UInt8), 0, 0, ([] : List Int), ([] : List Int), t_231.1, t_237.1⟩ : api_Msg))
  else (
  some ((⟨0, 0, 0, 0, 0, 0, false, 0, 0, 0, 0, ([] : List UInt8), 0, 0, ([] : List Int), ([] : List Int), 0, (⟨0, 0, (⟨0, 0, ([] : List UInt8), ([] : List UInt8), ([] : List UInt8)⟩ : api_Cmd)⟩ : api_Entry)⟩ : api_Msg), false))))))))
def mesg_read.f (K : Nat) (x0 : List UInt8) : Option (api_Msg × Bool) :=
  Option.bind (pack_Read.f x0) fun t_3 =>
  Option.bind (pack_Reader_Num.f K t_3.1 t_3.2 8) fun t_10 =>
  Option.bind (pack_Reader_Num.f K t_10.2.1 t_10.2.2 6) fun t_16 =>
  Option.bind (pack_Reader_Num.f K t_16.2.1 t_16.2.2 6) fun t_22 =>
  Option.bind (pack_Reader_Num.f K t_22.2.1 t_22.2.2 1099511627776) fun t_28 =>
  if t_10.1 = 1 then (
  mesg_read.J2 K t_28 t_10 t_16 t_22 (t_10.1 == 1))
  else (
  mesg_read.J2 K t_28 t_10 t_16 t_22 (t_10.1 == 6))

def bytes_Equal.f (x0 : List UInt8) (x1 : List UInt8) : Option (Bool) :=
  some (x0 == x1)

def slices_Equal_sint_int.J1 (K : Nat) : Option (Bool) :=
  some true
def slices_Equal_sint_int.B1 (K : Nat) (x0 : List Int) (x1 : List Int) (ex_9 : Unit → Option (Bool)) (again_9 : Int → Option (Bool)) (x_8 : Int) : Option (Bool) :=
  if x_8 < (x0.length : Int) then (
  Option.bind (ix x0 x_8) fun t_16 =>
  Option.bind (ix x1 x_8) fun t_21 =>
  if t_16 = t_21 then (
  again_9 (w64 (x_8 + 1)))
  else (
  some false))
  else (
  ex_9 ())
def slices_Equal_sint_int.L1 (K : Nat) (x0 : List Int) (x1 : List Int) (ex_9 : Unit → Option (Bool)) : Nat → Int → Option (Bool) :=
  iter fun again v => slices_Equal_sint_int.B1 K x0 x1 ex_9 again v
def slices_Equal_sint_int.f (K : Nat) (x0 : List Int) (x1 : List Int) : Option (Bool) :=
  if (x0.length : Int) = (x1.length : Int) then (
  slices_Equal_sint_int.L1 K x0 x1 (fun v => slices_Equal_sint_int.J1 K) K 0)
  else (
  some false)

def mach_SameEntry.J1 (x0 : api_Entry) (x1 : api_Entry) : Option (Bool) :=
  if x0.Sess = x1.Sess then (
  if x0.Seq = x1.Seq then (
  if x0.Cmd.Kind = x1.Cmd.Kind then (
  if x0.Cmd.Who = x1.Cmd.Who then (
  Option.bind (bytes_Equal.f x0.Cmd.Key x1.Cmd.Key) fun t_16 =>
  if t_16 = true then (
  Option.bind (bytes_Equal.f x0.Cmd.Val x1.Cmd.Val) fun t_21 =>
  if t_21 = true then (
  Option.bind (bytes_Equal.f x0.Cmd.Old x1.Cmd.Old) fun t_26 =>
  some t_26)
  else (
  some false))
  else (
  some false))
  else (
  some false))
  else (
  some false))
  else (
  some false))
  else (
  some false)
def mach_SameEntry.f (x0 : api_Entry) (x1 : api_Entry) : Option (Bool) :=
  mach_SameEntry.J1 x0 x1

def mesg_fields.f (K : Nat) (x0 : api_Msg) (x1 : api_Msg) : Option (Bool) :=
  if x0.Kind = 2 then (
  if x0.Inst = x1.Inst then (
  if x0.Len = x1.Len then (
  some (x0.Has == x1.Has))
  else (
  some false))
  else (
  some false))
  else (
  if x0.Kind = 3 then (
  if x0.Members = x1.Members then (
  if x0.Source = x1.Source then (
  some (x0.Len == x1.Len))
  else (
  some false))
  else (
  some false))
  else (
  if x0.Kind = 4 then (
  some (x0.At == x1.At))
  else (
  if x0.Kind = 5 then (
  if x0.At = x1.At then (
  if x0.Total = x1.Total then (
  Option.bind (bytes_Equal.f x0.Data x1.Data) fun t_19 =>
  some t_19)
  else (
  some false))
  else (
  some false))
  else (
  if x0.Kind = 7 then (
  if x0.Hop = x1.Hop then (
  if x0.Seq = x1.Seq then (
  Option.bind (slices_Equal_sint_int.f K x0.Have x1.Have) fun t_27 =>
  if t_27 = true then (
  Option.bind (slices_Equal_sint_int.f K x0.Need x1.Need) fun t_32 =>
  some t_32)
  else (
  some false))
  else (
  some false))
  else (
  some false))
  else (
  if x0.Kind = 8 then (
  if x0.Index = x1.Index then (
  Option.bind (mach_SameEntry.f x0.Entry x1.Entry) fun t_39 =>
  some t_39)
  else (
  some false))
  else (
  some true))))))

def mesg_alike.f (K : Nat) (x0 : api_Msg) (x1 : api_Msg) : Option (Bool) :=
  if x0.Kind = x1.Kind then (
  if x0.From = x1.From then (
  if x0.To = x1.To then (
  if x0.View = x1.View then (
  Option.bind (mesg_fields.f K x0 x1) fun t_10 =>
  some t_10)
  else (
  some false))
  else (
  some false))
  else (
  some false))
  else (
  some false)

def mesg_Decode.f (K : Nat) (x0 : List UInt8) : Option (api_Msg × Bool) :=
  Option.bind (mesg_read.f K x0) fun t_3 =>
  if t_3.2 = true then (
  some (t_3.1, true))
  else (
  some ((⟨0, 0, 0, 0, 0, 0, false, 0, 0, 0, 0, ([] : List UInt8), 0, 0, ([] : List Int), ([] : List Int), 0, (⟨0, 0, (⟨0, 0, ([] : List UInt8), ([] : List UInt8), ([] : List UInt8)⟩ : api_Cmd)⟩ : api_Entry)⟩ : api_Msg), false))

def mesg_Same.J1 (K : Nat) (x0 : api_Msg) (x1 : api_Msg) : Option (Bool) :=
  some (x0.Kind == x1.Kind)
def mesg_Same.J2 (K : Nat) (x_10 : Int) (x0 : api_Msg) (x1 : api_Msg) (again_11 : Int → Option (Bool)) : Option (Bool) :=
  Option.bind (mesg_alike.f K (⟨x_10, x0.From, x0.To, x0.View, x0.Inst, x0.Len, x0.Has, x0.Members, x0.Source, x0.At, x0.Total, x0.Data, x0.Hop, x0.Seq, x0.Have, x0.Need, x0.Index, x0.Entry⟩ : api_Msg) (⟨x_10, x1.From, x1.To, x1.View, x1.Inst, x1.Len, x1.Has, x1.Members, x1.Source, x1.At, x1.Total, x1.Data, x1.Hop, x1.Seq, x1.Have, x1.Need, x1.Index, x1.Entry⟩ : api_Msg)) fun t_24 =>
  if t_24 = true then (
  again_11 (w64 (x_10 + 1)))
  else (
  some false)
def mesg_Same.B1 (K : Nat) (x0 : api_Msg) (x1 : api_Msg) (ex_11 : Unit → Option (Bool)) (again_11 : Int → Option (Bool)) (x_10 : Int) : Option (Bool) :=
  if x_10 ≤ 8 then (
  mesg_Same.J2 K x_10 x0 x1 again_11)
  else (
  ex_11 ())
def mesg_Same.L1 (K : Nat) (x0 : api_Msg) (x1 : api_Msg) (ex_11 : Unit → Option (Bool)) : Nat → Int → Option (Bool) :=
  iter fun again v => mesg_Same.B1 K x0 x1 ex_11 again v
def mesg_Same.f (K : Nat) (x0 : api_Msg) (x1 : api_Msg) : Option (Bool) :=
  mesg_Same.L1 K x0 x1 (fun v => mesg_Same.J1 K x0 x1) K 1

def hocketlaw7_Keys.f (x0 : Int) : Option ((List UInt8)) :=
  Option.bind (ix ([([] : List UInt8), ([97] : List UInt8), ([98] : List UInt8), ([99] : List UInt8), ([97, 98] : List UInt8), ([97, 98, 99] : List UInt8), ([122] : List UInt8), ([0] : List UInt8), ([255] : List UInt8), ([97, 98, 99, 100, 101, 102, 103, 104] : List UInt8), ([97, 98, 99, 100, 101, 102, 103, 104, 105] : List UInt8), ([107, 49] : List UInt8), ([107, 50] : List UInt8), ([107, 51] : List UInt8), ([107, 52] : List UInt8), ([107, 53] : List UInt8)] : List (List UInt8)) (band .i64 x0 15)) fun t_7 =>
  Option.bind (must (t_7.length ≤ 9223372036854775807)) fun u_12 =>
  some t_7

def hocketlaw8_Cmd.J3 (x0 : Int) (x_23 : api_Cmd) (x_39 : Int) : Option (api_Cmd) :=
  if (band .i64 (shr .i64 x0 19) 31) = 0 then (
  some (⟨band .i64 (shr .i64 x0 24) 31, w64 ((band .i64 (shr .i64 x0 17) 2047) - 20), x_23.Key, x_23.Val, x_23.Old⟩ : api_Cmd))
  else (
  some (⟨x_39, x_23.Who, x_23.Key, x_23.Val, x_23.Old⟩ : api_Cmd))
def hocketlaw8_Cmd.J2 (x0 : Int) (x_23 : api_Cmd) (x_35 : Bool) : Option (api_Cmd) :=
  if x_35 = true then (
  Option.bind (ix ([1, 2, 4, 9] : List Int) (band .i64 (shr .i64 x0 17) 3)) fun t_55 =>
  hocketlaw8_Cmd.J3 x0 x_23 t_55)
  else (
  hocketlaw8_Cmd.J3 x0 x_23 x_23.Kind)
def hocketlaw8_Cmd.J1 (x0 : Int) (x_23 : api_Cmd) : Option (api_Cmd) :=
  if x_23.Kind = 0 then (
  hocketlaw8_Cmd.J2 x0 x_23 true)
  else (
  hocketlaw8_Cmd.J2 x0 x_23 (x_23.Kind == 12))
def hocketlaw8_Cmd.f (x0 : Int) : Option (api_Cmd) :=
  Option.bind (ix ([([] : List UInt8), ([97] : List UInt8), ([98] : List UInt8), ([97, 98] : List UInt8), ([118, 97, 108, 117, 101] : List UInt8), ([48, 49, 50, 51, 52, 53, 54, 55, 56, 57, 97, 98, 99, 100, 101, 102] : List UInt8), ([48, 49, 50, 51, 52, 53, 54, 55, 56, 57, 97, 98, 99, 100, 101, 102, 103] : List UInt8), ([0, 255] : List UInt8)] : List (List UInt8)) (band .i64 (shr .i64 x0 5) 7)) fun t_9 =>
  Option.bind (must (t_9.length ≤ 9223372036854775807)) fun u_14 =>
  Option.bind (hocketlaw7_Keys.f (shr .i64 x0 11)) fun t_63 =>
  Option.bind (ix ([([] : List UInt8), ([97] : List UInt8), ([98] : List UInt8), ([97, 98] : List UInt8)] : List (List UInt8)) (band .i64 (shr .i64 x0 15) 3)) fun t_75 =>
  Option.bind (must (t_75.length ≤ 9223372036854775807)) fun u_80 =>
  hocketlaw8_Cmd.J1 x0 (⟨w64 ((Int.tmod (band .i64 x0 31) 13) + 0), band .i64 (shr .i64 x0 8) 7, t_63, t_9, t_75⟩ : api_Cmd)

def hocketlaw10_Entry.f (x0 : Int) (x1 : Int) : Option (api_Entry) :=
  Option.bind (hocketlaw8_Cmd.f x0) fun t_3 =>
  some (⟨w64 ((Int.tmod (band .i64 (shr .i64 x0 25) 7) 6) + 1), w64 ((w64 ((w64 (Int.tdiv x1 3)) + (band .i64 (shr .i64 x0 28) 1))) + 1), t_3⟩ : api_Entry)

def hocketlaw11_Msg.J1 (K : Nat) (x0 : Int) (x1 : Int) (x_34 : List UInt8) : Option (api_Msg) :=
  some (⟨w64 ((band .i64 x0 7) + 1), Int.tmod (band .i64 (shr .i64 x0 3) 7) 7, Int.tmod (band .i64 (shr .i64 x0 6) 7) 7, band .i64 (shr .i64 x0 9) 1023, 0, 0, false, 0, 0, band .i64 x1 4095, band .i64 (shr .i64 x1 12) 4095, x_34, 0, 0, ([] : List Int), ([] : List Int), 0, (⟨0, 0, (⟨0, 0, ([] : List UInt8), ([] : List UInt8), ([] : List UInt8)⟩ : api_Cmd)⟩ : api_Entry)⟩ : api_Msg)
def hocketlaw11_Msg.B1 (K : Nat) (x1 : Int) (ex_51 : (List UInt8) → Option (api_Msg)) (again_51 : Int × (List UInt8) → Option (api_Msg)) (x_45 : Int) (x_46 : List UInt8) : Option (api_Msg) :=
  if x_45 < (band .i64 (shr .i64 x1 24) 63) then (
  Option.bind (app 140737488355328 x_46 ([toU8 (shr .i64 x1 (wu64 (band .i64 x_45 15)))] : List UInt8)) fun t_62 =>
  again_51 (w64 (x_45 + 1), t_62))
  else (
  ex_51 x_46)
def hocketlaw11_Msg.L1 (K : Nat) (x1 : Int) (ex_51 : (List UInt8) → Option (api_Msg)) : Nat → Int × (List UInt8) → Option (api_Msg) :=
  iter fun again v => hocketlaw11_Msg.B1 K x1 ex_51 again v.1 v.2
def hocketlaw11_Msg.J3 (K : Nat) (x0 : Int) (x1 : Int) (x_74 : List Int) (x_83 : List Int) : Option (api_Msg) :=
  some (⟨w64 ((band .i64 x0 7) + 1), Int.tmod (band .i64 (shr .i64 x0 3) 7) 7, Int.tmod (band .i64 (shr .i64 x0 6) 7) 7, band .i64 (shr .i64 x0 9) 1023, 0, 0, false, 0, 0, 0, 0, ([] : List UInt8), band .i64 x1 1023, band .i64 (shr .i64 x1 10) 255, x_74, x_83, 0, (⟨0, 0, (⟨0, 0, ([] : List UInt8), ([] : List UInt8), ([] : List UInt8)⟩ : api_Cmd)⟩ : api_Entry)⟩ : api_Msg)
def hocketlaw11_Msg.B2 (K : Nat) (x1 : Int) (ex_99 : (List Int) → Option (api_Msg)) (again_99 : Int × (List Int) → Option (api_Msg)) (x_93 : Int) (x_94 : List Int) : Option (api_Msg) :=
  if x_93 < (band .i64 (shr .i64 x1 21) 7) then (
  Option.bind (app 17592186044416 x_94 ([band .i64 (shr .i64 x1 (wu64 (w64 (x_93 + 3)))) 63] : List Int)) fun t_110 =>
  again_99 (w64 (x_93 + 1), t_110))
  else (
  ex_99 x_94)
def hocketlaw11_Msg.L2 (K : Nat) (x1 : Int) (ex_99 : (List Int) → Option (api_Msg)) : Nat → Int × (List Int) → Option (api_Msg) :=
  iter fun again v => hocketlaw11_Msg.B2 K x1 ex_99 again v.1 v.2
def hocketlaw11_Msg.J2 (K : Nat) (x1 : Int) (x0 : Int) (x_74 : List Int) : Option (api_Msg) :=
  hocketlaw11_Msg.L2 K x1 (fun v => hocketlaw11_Msg.J3 K x0 x1 x_74 v) K (0, ([] : List Int))
def hocketlaw11_Msg.B3 (K : Nat) (x1 : Int) (ex_124 : (List Int) → Option (api_Msg)) (again_124 : Int × (List Int) → Option (api_Msg)) (x_118 : Int) (x_119 : List Int) : Option (api_Msg) :=
  if x_118 < (band .i64 (shr .i64 x1 18) 7) then (
  Option.bind (app 17592186044416 x_119 ([band .i64 (shr .i64 x1 (wu64 x_118)) 63] : List Int)) fun t_135 =>
  again_124 (w64 (x_118 + 1), t_135))
  else (
  ex_124 x_119)
def hocketlaw11_Msg.L3 (K : Nat) (x1 : Int) (ex_124 : (List Int) → Option (api_Msg)) : Nat → Int × (List Int) → Option (api_Msg) :=
  iter fun again v => hocketlaw11_Msg.B3 K x1 ex_124 again v.1 v.2
def hocketlaw11_Msg.f (K : Nat) (x0 : Int) (x1 : Int) : Option (api_Msg) :=
  if (w64 ((band .i64 x0 7) + 1)) = 2 then (
  some (⟨w64 ((band .i64 x0 7) + 1), Int.tmod (band .i64 (shr .i64 x0 3) 7) 7, Int.tmod (band .i64 (shr .i64 x0 6) 7) 7, band .i64 (shr .i64 x0 9) 1023, band .i64 x1 255, band .i64 (shr .i64 x1 8) 63, ((band .i64 (shr .i64 x1 14) 1) == 1), 0, 0, 0, 0, ([] : List UInt8), 0, 0, ([] : List Int), ([] : List Int), 0, (⟨0, 0, (⟨0, 0, ([] : List UInt8), ([] : List UInt8), ([] : List UInt8)⟩ : api_Cmd)⟩ : api_Entry)⟩ : api_Msg))
  else (
  if (w64 ((band .i64 x0 7) + 1)) = 3 then (
  some (⟨w64 ((band .i64 x0 7) + 1), Int.tmod (band .i64 (shr .i64 x0 3) 7) 7, Int.tmod (band .i64 (shr .i64 x0 6) 7) 7, band .i64 (shr .i64 x0 9) 1023, 0, band .i64 (shr .i64 x1 10) 63, false, band .i64 x1 127, Int.tmod (band .i64 (shr .i64 x1 7) 7) 7, 0, 0, ([] : List UInt8), 0, 0, ([] : List Int), ([] : List Int), 0, (⟨0, 0, (⟨0, 0, ([] : List UInt8), ([] : List UInt8), ([] : List UInt8)⟩ : api_Cmd)⟩ : api_Entry)⟩ : api_Msg))
  else (
  if (w64 ((band .i64 x0 7) + 1)) = 4 then (
  some (⟨w64 ((band .i64 x0 7) + 1), Int.tmod (band .i64 (shr .i64 x0 3) 7) 7, Int.tmod (band .i64 (shr .i64 x0 6) 7) 7, band .i64 (shr .i64 x0 9) 1023, 0, 0, false, 0, 0, band .i64 x1 4095, 0, ([] : List UInt8), 0, 0, ([] : List Int), ([] : List Int), 0, (⟨0, 0, (⟨0, 0, ([] : List UInt8), ([] : List UInt8), ([] : List UInt8)⟩ : api_Cmd)⟩ : api_Entry)⟩ : api_Msg))
  else (
  if (w64 ((band .i64 x0 7) + 1)) = 5 then (
  hocketlaw11_Msg.L1 K x1 (fun v => hocketlaw11_Msg.J1 K x0 x1 v) K (0, ([] : List UInt8)))
  else (
  if (w64 ((band .i64 x0 7) + 1)) = 7 then (
  hocketlaw11_Msg.L3 K x1 (fun v => hocketlaw11_Msg.J2 K x1 x0 v) K (0, ([] : List Int)))
  else (
  if (w64 ((band .i64 x0 7) + 1)) = 8 then (
  Option.bind (hocketlaw10_Entry.f x0 (band .i64 (shr .i64 x1 10) 63)) fun t_143 =>
  some (⟨w64 ((band .i64 x0 7) + 1), Int.tmod (band .i64 (shr .i64 x0 3) 7) 7, Int.tmod (band .i64 (shr .i64 x0 6) 7) 7, band .i64 (shr .i64 x0 9) 1023, 0, 0, false, 0, 0, 0, 0, ([] : List UInt8), 0, 0, ([] : List Int), ([] : List Int), band .i64 x1 1023, (⟨t_143.Sess, t_143.Seq, (⟨t_143.Cmd.Kind, mx t_143.Cmd.Who 0, t_143.Cmd.Key, t_143.Cmd.Val, t_143.Cmd.Old⟩ : api_Cmd)⟩ : api_Entry)⟩ : api_Msg))
  else (
  some (⟨w64 ((band .i64 x0 7) + 1), Int.tmod (band .i64 (shr .i64 x0 3) 7) 7, Int.tmod (band .i64 (shr .i64 x0 6) 7) 7, band .i64 (shr .i64 x0 9) 1023, 0, 0, false, 0, 0, 0, 0, ([] : List UInt8), 0, 0, ([] : List Int), ([] : List Int), 0, (⟨0, 0, (⟨0, 0, ([] : List UInt8), ([] : List UInt8), ([] : List UInt8)⟩ : api_Cmd)⟩ : api_Entry)⟩ : api_Msg)))))))

def hocketref1_SameInts.J1 (K : Nat) : Option (Bool) :=
  some true
def hocketref1_SameInts.B1 (K : Nat) (x0 : List Int) (x1 : List Int) (ex_9 : Unit → Option (Bool)) (again_9 : Int → Option (Bool)) (x_8 : Int) : Option (Bool) :=
  if x_8 < (x0.length : Int) then (
  Option.bind (ix x0 x_8) fun t_16 =>
  Option.bind (ix x1 x_8) fun t_21 =>
  if t_16 = t_21 then (
  again_9 (w64 (x_8 + 1)))
  else (
  some false))
  else (
  ex_9 ())
def hocketref1_SameInts.L1 (K : Nat) (x0 : List Int) (x1 : List Int) (ex_9 : Unit → Option (Bool)) : Nat → Int → Option (Bool) :=
  iter fun again v => hocketref1_SameInts.B1 K x0 x1 ex_9 again v
def hocketref1_SameInts.f (K : Nat) (x0 : List Int) (x1 : List Int) : Option (Bool) :=
  if (x0.length : Int) = (x1.length : Int) then (
  hocketref1_SameInts.L1 K x0 x1 (fun v => hocketref1_SameInts.J1 K) K 0)
  else (
  some false)

def hocketref4_SameEntry.f (x0 : api_Entry) (x1 : api_Entry) : Option (Bool) :=
  if x0.Sess = x1.Sess then (
  if x0.Seq = x1.Seq then (
  if x0.Cmd.Kind = x1.Cmd.Kind then (
  if x0.Cmd.Who = x1.Cmd.Who then (
  if x0.Cmd.Key = x1.Cmd.Key then (
  if x0.Cmd.Val = x1.Cmd.Val then (
  some (x0.Cmd.Old == x1.Cmd.Old))
  else (
  some false))
  else (
  some false))
  else (
  some false))
  else (
  some false))
  else (
  some false))
  else (
  some false)

def hocketref11_Same.f (K : Nat) (x0 : api_Msg) (x1 : api_Msg) : Option (Bool) :=
  if x0.Kind = x1.Kind then (
  if x0.From = x1.From then (
  if x0.To = x1.To then (
  if x0.View = x1.View then (
  if x0.Inst = x1.Inst then (
  if x0.Len = x1.Len then (
  if x0.Has = x1.Has then (
  if x0.Members = x1.Members then (
  if x0.Source = x1.Source then (
  if x0.At = x1.At then (
  if x0.Total = x1.Total then (
  if x0.Data = x1.Data then (
  if x0.Hop = x1.Hop then (
  if x0.Seq = x1.Seq then (
  Option.bind (hocketref1_SameInts.f K x0.Have x1.Have) fun t_20 =>
  if t_20 = true then (
  Option.bind (hocketref1_SameInts.f K x0.Need x1.Need) fun t_25 =>
  if t_25 = true then (
  if x0.Index = x1.Index then (
  Option.bind (hocketref4_SameEntry.f x0.Entry x1.Entry) fun t_31 =>
  some t_31)
  else (
  some false))
  else (
  some false))
  else (
  some false))
  else (
  some false))
  else (
  some false))
  else (
  some false))
  else (
  some false))
  else (
  some false))
  else (
  some false))
  else (
  some false))
  else (
  some false))
  else (
  some false))
  else (
  some false))
  else (
  some false))
  else (
  some false))
  else (
  some false))
  else (
  some false)

def hocketref11_within.J1 (K : Nat) (x0 : List Int) (x1 : Int) : Option (Bool) :=
  some (decide ((x0.length : Int) ≤ x1))
def hocketref11_within.J2 (K : Nat) (again_7 : Int → Option (Bool)) (x_6 : Int) (x_14 : Bool) : Option (Bool) :=
  if x_14 = true then (
  some false)
  else (
  again_7 (w64 (x_6 + 1)))
def hocketref11_within.B1 (K : Nat) (x0 : List Int) (ex_7 : Unit → Option (Bool)) (again_7 : Int → Option (Bool)) (x_6 : Int) : Option (Bool) :=
  if x_6 < (x0.length : Int) then (
  Option.bind (ix x0 x_6) fun t_18 =>
  if t_18 < 0 then (
  hocketref11_within.J2 K again_7 x_6 true)
  else (
  Option.bind (ix x0 x_6) fun t_24 =>
  hocketref11_within.J2 K again_7 x_6 (decide (t_24 > 1099511627776))))
  else (
  ex_7 ())
def hocketref11_within.L1 (K : Nat) (x0 : List Int) (ex_7 : Unit → Option (Bool)) : Nat → Int → Option (Bool) :=
  iter fun again v => hocketref11_within.B1 K x0 ex_7 again v
def hocketref11_within.f (K : Nat) (x0 : List Int) (x1 : Int) : Option (Bool) :=
  hocketref11_within.L1 K x0 (fun v => hocketref11_within.J1 K x0 x1) K 0

def hocketref11_entry.f (x0 : api_Entry) : Option (Bool) :=
  if x0.Sess ≥ 0 then (
  if x0.Sess ≤ 1073741824 then (
  if x0.Seq ≥ 0 then (
  if x0.Seq ≤ 1073741824 then (
  if x0.Cmd.Kind ≥ 0 then (
  if x0.Cmd.Kind ≤ 1073741824 then (
  if x0.Cmd.Who ≥ 0 then (
  if x0.Cmd.Who ≤ 1073741824 then (
  if (x0.Cmd.Key.length : Int) ≤ 32 then (
  if (x0.Cmd.Val.length : Int) ≤ 32 then (
  some (decide ((x0.Cmd.Old.length : Int) ≤ 32)))
  else (
  some false))
  else (
  some false))
  else (
  some false))
  else (
  some false))
  else (
  some false))
  else (
  some false))
  else (
  some false))
  else (
  some false))
  else (
  some false))
  else (
  some false)

def hocketref11_Ok.J2 (K : Nat) (x0 : api_Msg) (x_13 : Bool) : Option (Bool) :=
  if x_13 = true then (
  some true)
  else (
  if x0.Kind = 2 then (
  Option.bind (hocketref11_within.f K ([x0.Inst, x0.Len] : List Int) 2) fun t_24 =>
  some t_24)
  else (
  if x0.Kind = 3 then (
  if x0.Members ≥ 0 then (
  if x0.Members ≤ 127 then (
  if x0.Source ≥ 0 then (
  if x0.Source ≤ 6 then (
  Option.bind (hocketref11_within.f K ([x0.Len] : List Int) 1) fun t_40 =>
  some t_40)
  else (
  some false))
  else (
  some false))
  else (
  some false))
  else (
  some false))
  else (
  if x0.Kind = 4 then (
  Option.bind (hocketref11_within.f K ([x0.At] : List Int) 1) fun t_51 =>
  some t_51)
  else (
  if x0.Kind = 5 then (
  Option.bind (hocketref11_within.f K ([x0.At, x0.Total] : List Int) 2) fun t_63 =>
  if t_63 = true then (
  some (decide ((x0.Data.length : Int) ≤ 64)))
  else (
  some false))
  else (
  if x0.Kind = 7 then (
  Option.bind (hocketref11_within.f K ([x0.Hop, x0.Seq] : List Int) 2) fun t_76 =>
  if t_76 = true then (
  Option.bind (hocketref11_within.f K x0.Have 7) fun t_81 =>
  if t_81 = true then (
  Option.bind (hocketref11_within.f K x0.Need 8) fun t_86 =>
  some t_86)
  else (
  some false))
  else (
  some false))
  else (
  if x0.Kind = 8 then (
  Option.bind (hocketref11_within.f K ([x0.Index] : List Int) 1) fun t_98 =>
  if t_98 = true then (
  Option.bind (hocketref11_entry.f x0.Entry) fun t_103 =>
  some t_103)
  else (
  some false))
  else (
  some false)))))))
def hocketref11_Ok.J1 (K : Nat) (x0 : api_Msg) (x_6 : Bool) : Option (Bool) :=
  if x_6 = true then (
  some false)
  else (
  if x0.Kind = 1 then (
  hocketref11_Ok.J2 K x0 (x0.Kind == 1))
  else (
  hocketref11_Ok.J2 K x0 (x0.Kind == 6)))
def hocketref11_Ok.f (K : Nat) (x0 : api_Msg) : Option (Bool) :=
  if x0.From < 0 then (
  hocketref11_Ok.J1 K x0 true)
  else (
  if x0.From > 6 then (
  hocketref11_Ok.J1 K x0 true)
  else (
  if x0.To < 0 then (
  hocketref11_Ok.J1 K x0 true)
  else (
  if x0.To > 6 then (
  hocketref11_Ok.J1 K x0 true)
  else (
  if x0.View < 0 then (
  hocketref11_Ok.J1 K x0 true)
  else (
  hocketref11_Ok.J1 K x0 (decide (x0.View > 1099511627776)))))))

def hocketref1_Num.J1 (K : Nat) (x_15 : Int) (x_16 : List UInt8) : Option ((List UInt8)) :=
  Option.bind (app 140737488355328 x_16 ([toU8 x_15] : List UInt8)) fun t_29 =>
  some t_29
def hocketref1_Num.B1 (K : Nat) (ex_42 : Int × (List UInt8) → Option ((List UInt8))) (again_42 : Int × (List UInt8) → Option ((List UInt8))) (x_36 : Int) (x_37 : List UInt8) : Option ((List UInt8)) :=
  if x_36 > 127 then (
  Option.bind (app 140737488355328 x_37 ([toU8 (bor .i64 (band .i64 x_36 127) 128)] : List UInt8)) fun t_52 =>
  again_42 (shr .i64 x_36 7, t_52))
  else (
  ex_42 (x_36, x_37))
def hocketref1_Num.L1 (K : Nat) (ex_42 : Int × (List UInt8) → Option ((List UInt8))) : Nat → Int × (List UInt8) → Option ((List UInt8)) :=
  iter fun again v => hocketref1_Num.B1 K ex_42 again v.1 v.2
def hocketref1_Num.f (K : Nat) (x0 : List UInt8) (x1 : Int) : Option ((List UInt8)) :=
  Option.bind (app 140737488355328 ([] : List UInt8) x0) fun t_7 =>
  hocketref1_Num.L1 K (fun v => hocketref1_Num.J1 K v.1 v.2) K (mn (mx x1 0) 4611686018427387904, t_7)

def hocketref11_nums.J1 (K : Nat) (x_3 : List UInt8) : Option ((List UInt8)) :=
  some x_3
def hocketref11_nums.B1 (K : Nat) (x1 : List Int) (ex_13 : (List UInt8) → Option ((List UInt8))) (again_13 : (List UInt8) × Int → Option ((List UInt8))) (x_9 : List UInt8) (x_12 : Int) : Option ((List UInt8)) :=
  if x_12 < (x1.length : Int) then (
  Option.bind (ix x1 x_12) fun t_17 =>
  Option.bind (hocketref1_Num.f K x_9 t_17) fun t_22 =>
  again_13 (t_22, w64 (x_12 + 1)))
  else (
  ex_13 x_9)
def hocketref11_nums.L1 (K : Nat) (x1 : List Int) (ex_13 : (List UInt8) → Option ((List UInt8))) : Nat → (List UInt8) × Int → Option ((List UInt8)) :=
  iter fun again v => hocketref11_nums.B1 K x1 ex_13 again v.1 v.2
def hocketref11_nums.f (K : Nat) (x0 : List UInt8) (x1 : List Int) : Option ((List UInt8)) :=
  hocketref11_nums.L1 K x1 (fun v => hocketref11_nums.J1 K v) K (x0, 0)

def hocketref1_Bytes.f (K : Nat) (x0 : List UInt8) (x1 : List UInt8) : Option ((List UInt8)) :=
  Option.bind (hocketref1_Num.f K x0 (x1.length : Int)) fun t_1 =>
  Option.bind (app 140737488355328 t_1 x1) fun t_9 =>
  some t_9

def hocketref4_PutEntry.f (K : Nat) (x0 : List UInt8) (x1 : api_Entry) : Option ((List UInt8)) :=
  Option.bind (hocketref1_Num.f K x0 x1.Sess) fun t_5 =>
  Option.bind (hocketref1_Num.f K t_5 x1.Seq) fun t_13 =>
  Option.bind (hocketref1_Num.f K t_13 x1.Cmd.Kind) fun t_21 =>
  Option.bind (hocketref1_Num.f K t_21 x1.Cmd.Who) fun t_29 =>
  Option.bind (hocketref1_Bytes.f K t_29 x1.Cmd.Key) fun t_39 =>
  Option.bind (hocketref1_Bytes.f K t_39 x1.Cmd.Val) fun t_47 =>
  Option.bind (hocketref1_Bytes.f K t_47 x1.Cmd.Old) fun t_55 =>
  some t_55

def hocketref11_Encode.J1 (K : Nat) (t_16 : (List UInt8)) (x0 : api_Msg) (x_26 : Int) : Option ((List UInt8)) :=
  Option.bind (hocketref11_nums.f K t_16 ([x0.Inst, x0.Len, x_26] : List Int)) fun t_36 =>
  some t_36
def hocketref11_Encode.f (K : Nat) (x0 : api_Msg) : Option ((List UInt8)) :=
  Option.bind (hocketref11_Ok.f K x0) fun t_4 =>
  if t_4 = true then (
  Option.bind (hocketref11_nums.f K ([] : List UInt8) ([x0.Kind, x0.From, x0.To, x0.View] : List Int)) fun t_16 =>
  if x0.Kind = 2 then (
  if x0.Has = true then (
  hocketref11_Encode.J1 K t_16 x0 1)
  else (
  hocketref11_Encode.J1 K t_16 x0 0))
  else (
  if x0.Kind = 3 then (
  Option.bind (hocketref11_nums.f K t_16 ([x0.Members, x0.Source, x0.Len] : List Int)) fun t_51 =>
  some t_51)
  else (
  if x0.Kind = 4 then (
  Option.bind (hocketref11_nums.f K t_16 ([x0.At] : List Int)) fun t_65 =>
  some t_65)
  else (
  if x0.Kind = 5 then (
  Option.bind (hocketref11_nums.f K t_16 ([x0.At, x0.Total] : List Int)) fun t_81 =>
  Option.bind (hocketref1_Bytes.f K t_81 x0.Data) fun t_87 =>
  some t_87)
  else (
  if x0.Kind = 7 then (
  Option.bind (hocketref11_nums.f K t_16 ([x0.Hop, x0.Seq, (x0.Have.length : Int)] : List Int)) fun t_106 =>
  Option.bind (hocketref11_nums.f K t_106 x0.Have) fun t_112 =>
  Option.bind (hocketref11_nums.f K t_112 ([(x0.Need.length : Int)] : List Int)) fun t_128 =>
  Option.bind (hocketref11_nums.f K t_128 x0.Need) fun t_135 =>
  some t_135)
  else (
  if x0.Kind = 8 then (
  Option.bind (hocketref11_nums.f K t_16 ([x0.Index] : List Int)) fun t_152 =>
  Option.bind (hocketref4_PutEntry.f K t_152 x0.Entry) fun t_158 =>
  some t_158)
  else (
  some t_16)))))))
  else (
  some ([] : List UInt8))

def hocketref1_Reader_Num.J1 (K : Nat) (x0_B : List UInt8) (x_3 : Bool) : Option (Int × (List UInt8) × Bool) :=
  some (0, x0_B, x_3)
def hocketref1_Reader_Num.J3 (K : Nat) (ex_9 : Bool → Option (Int × (List UInt8) × Bool)) (x0_B : List UInt8) (x_8 : Int) (x_7 : Int) (t_21 : UInt8) (x0_Bad : Bool) (x_30 : Bool) : Option (Int × (List UInt8) × Bool) :=
  if x_30 = true then (
  ex_9 true)
  else (
  Option.bind (cut x0_B (w64 (x_8 + 1)) (x0_B.length : Int)) fun t_35 =>
  some (w64 (bor .u64 x_7 (shl .u64 (wu64 ((t_21 &&& (127 : UInt8)).toNat : Int)) (wu64 (w64 (7 * x_8))))), t_35, x0_Bad))
def hocketref1_Reader_Num.J2 (K : Nat) (ex_9 : Bool → Option (Int × (List UInt8) × Bool)) (x0_B : List UInt8) (x_8 : Int) (x_7 : Int) (x0_Bad : Bool) (x1 : Int) (again_9 : Int × Int → Option (Int × (List UInt8) × Bool)) (x_16 : Bool) : Option (Int × (List UInt8) × Bool) :=
  if x_16 = true then (
  ex_9 true)
  else (
  Option.bind (ix x0_B x_8) fun t_21 =>
  if (t_21.toNat : Int) < ((128 : UInt8).toNat : Int) then (
  if (t_21.toNat : Int) = ((0 : UInt8).toNat : Int) then (
  if (w64 (x_8 + 1)) > 1 then (
  hocketref1_Reader_Num.J3 K ex_9 x0_B x_8 x_7 t_21 x0_Bad true)
  else (
  hocketref1_Reader_Num.J3 K ex_9 x0_B x_8 x_7 t_21 x0_Bad (decide ((bor .u64 x_7 (shl .u64 (wu64 ((t_21 &&& (127 : UInt8)).toNat : Int)) (wu64 (w64 (7 * x_8))))) > (wu64 (mn (mx x1 0) 4611686018427387904))))))
  else (
  hocketref1_Reader_Num.J3 K ex_9 x0_B x_8 x_7 t_21 x0_Bad (decide ((bor .u64 x_7 (shl .u64 (wu64 ((t_21 &&& (127 : UInt8)).toNat : Int)) (wu64 (w64 (7 * x_8))))) > (wu64 (mn (mx x1 0) 4611686018427387904))))))
  else (
  again_9 (bor .u64 x_7 (shl .u64 (wu64 ((t_21 &&& (127 : UInt8)).toNat : Int)) (wu64 (w64 (7 * x_8)))), w64 (x_8 + 1))))
def hocketref1_Reader_Num.B1 (K : Nat) (x0_Bad : Bool) (x0_B : List UInt8) (x1 : Int) (ex_9 : Bool → Option (Int × (List UInt8) × Bool)) (again_9 : Int × Int → Option (Int × (List UInt8) × Bool)) (x_7 : Int) (x_8 : Int) : Option (Int × (List UInt8) × Bool) :=
  if x0_Bad = true then (
  ex_9 x0_Bad)
  else (
  if x_8 ≥ (x0_B.length : Int) then (
  hocketref1_Reader_Num.J2 K ex_9 x0_B x_8 x_7 x0_Bad x1 again_9 true)
  else (
  hocketref1_Reader_Num.J2 K ex_9 x0_B x_8 x_7 x0_Bad x1 again_9 (decide (x_8 > 8))))
def hocketref1_Reader_Num.L1 (K : Nat) (x0_Bad : Bool) (x0_B : List UInt8) (x1 : Int) (ex_9 : Bool → Option (Int × (List UInt8) × Bool)) : Nat → Int × Int → Option (Int × (List UInt8) × Bool) :=
  iter fun again v => hocketref1_Reader_Num.B1 K x0_Bad x0_B x1 ex_9 again v.1 v.2
def hocketref1_Reader_Num.f (K : Nat) (x0_B : List UInt8) (x0_Bad : Bool) (x1 : Int) : Option (Int × (List UInt8) × Bool) :=
  hocketref1_Reader_Num.L1 K x0_Bad x0_B x1 (fun v => hocketref1_Reader_Num.J1 K x0_B v) K (0, 0)

def hocketref1_Reader_Bytes.J1 (K : Nat) (x0_B : List UInt8) (t_1 : Int × (List UInt8) × Bool) (x_11 : Bool) : Option ((List UInt8) × (List UInt8) × Bool) :=
  if x_11 = true then (
  some (([] : List UInt8), x0_B, true))
  else (
  Option.bind (cut t_1.2.1 0 t_1.1) fun t_24 =>
  Option.bind (app 140737488355328 ([] : List UInt8) t_24) fun t_27 =>
  Option.bind (cut t_1.2.1 t_1.1 (t_1.2.1.length : Int)) fun t_33 =>
  some (t_27, t_33, t_1.2.2))
def hocketref1_Reader_Bytes.f (K : Nat) (x0_B : List UInt8) (x0_Bad : Bool) (x1 : Int) : Option ((List UInt8) × (List UInt8) × Bool) :=
  Option.bind (hocketref1_Reader_Num.f K x0_B x0_Bad x1) fun t_1 =>
  if t_1.2.2 = true then (
  hocketref1_Reader_Bytes.J1 K x0_B t_1 true)
  else (
  hocketref1_Reader_Bytes.J1 K x0_B t_1 (decide (t_1.1 > (t_1.2.1.length : Int))))

def hocketref11_row.J1 (K : Nat) (x_10 : List Int) (x_15 : List UInt8) (x_18 : Bool) : Option ((List Int) × (List UInt8) × Bool) :=
  some (x_10, x_15, x_18)
def hocketref11_row.B1 (K : Nat) (ex_32 : (List Int) × (List UInt8) × Bool → Option ((List Int) × (List UInt8) × Bool)) (again_32 : (List Int) × Int × (List UInt8) × Bool → Option ((List Int) × (List UInt8) × Bool)) (x_22 : List Int) (x_27 : Int) (x_28 : List UInt8) (x_31 : Bool) : Option ((List Int) × (List UInt8) × Bool) :=
  if x_27 > 0 then (
  Option.bind (hocketref1_Reader_Num.f K x_28 x_31 1099511627776) fun t_37 =>
  Option.bind (app 17592186044416 x_22 ([t_37.1] : List Int)) fun t_50 =>
  again_32 (t_50, w64 (x_27 - 1), t_37.2.1, t_37.2.2))
  else (
  ex_32 (x_22, x_28, x_31))
def hocketref11_row.L1 (K : Nat) (ex_32 : (List Int) × (List UInt8) × Bool → Option ((List Int) × (List UInt8) × Bool)) : Nat → (List Int) × Int × (List UInt8) × Bool → Option ((List Int) × (List UInt8) × Bool) :=
  iter fun again v => hocketref11_row.B1 K ex_32 again v.1 v.2.1 v.2.2.1 v.2.2.2
def hocketref11_row.f (K : Nat) (x0_B : List UInt8) (x0_Bad : Bool) (x1 : Int) : Option ((List Int) × (List UInt8) × Bool) :=
  Option.bind (hocketref1_Reader_Num.f K x0_B x0_Bad x1) fun t_2 =>
  hocketref11_row.L1 K (fun v => hocketref11_row.J1 K v.1 v.2.1 v.2.2) K (([] : List Int), t_2.1, t_2.2.1, t_2.2.2)

def hocketref4_GetEntry.f (K : Nat) (x0_B : List UInt8) (x0_Bad : Bool) : Option (api_Entry × (List UInt8) × Bool) :=
  Option.bind (hocketref1_Reader_Num.f K x0_B x0_Bad 1073741824) fun t_3 =>
  Option.bind (hocketref1_Reader_Num.f K t_3.2.1 t_3.2.2 1073741824) fun t_10 =>
  Option.bind (hocketref1_Reader_Num.f K t_10.2.1 t_10.2.2 1073741824) fun t_20 =>
  Option.bind (hocketref1_Reader_Num.f K t_20.2.1 t_20.2.2 1073741824) fun t_27 =>
  Option.bind (hocketref1_Reader_Bytes.f K t_27.2.1 t_27.2.2 32) fun t_36 =>
  Option.bind (hocketref1_Reader_Bytes.f K t_36.2.1 t_36.2.2 32) fun t_47 =>
  Option.bind (hocketref1_Reader_Bytes.f K t_47.2.1 t_47.2.2 32) fun t_58 =>
  if t_58.2.2 = true then (
  some ((⟨0, 0, (⟨0, 0, ([] : List UInt8), ([] : List UInt8), ([] : List UInt8)⟩ : api_Cmd)⟩ : api_Entry), t_58.2.1, t_58.2.2))
  else (
  some ((⟨t_3.1, t_10.1, (⟨t_20.1, t_27.1, t_36.1, t_47.1, t_58.1⟩ : api_Cmd)⟩ : api_Entry), t_58.2.1, t_58.2.2))

def hocketref1_Reader_End.f (x0_B : List UInt8) (x0_Bad : Bool) : Option (Bool) :=
  if x0_Bad = true then (
  some false)
  else (
  some ((x0_B.length : Int) == 0))

def hocketref11_Decode.J2 (K : Nat) (x_41 : api_Msg) (x_71 : Bool) : Option (api_Msg × Bool) :=
  if x_71 = true then (
  some ((⟨0, 0, 0, 0, 0, 0, false, 0, 0, 0, 0, ([] : List UInt8), 0, 0, ([] : List Int), ([] : List Int), 0, (⟨0, 0, (⟨0, 0, ([] : List UInt8), ([] : List UInt8), ([] : List UInt8)⟩ : api_Cmd)⟩ : api_Entry)⟩ : api_Msg), false))
  else (
  some (x_41, true))
def hocketref11_Decode.J1 (K : Nat) (x_38 : hocketref1_Reader) (x_41 : api_Msg) : Option (api_Msg × Bool) :=
  if x_41.Kind = 0 then (
  hocketref11_Decode.J2 K x_41 true)
  else (
  Option.bind (hocketref1_Reader_End.f x_38.B x_38.Bad) fun t_84 =>
  hocketref11_Decode.J2 K x_41 (!t_84))
def hocketref11_Decode.f (K : Nat) (x0 : List UInt8) : Option (api_Msg × Bool) :=
  Option.bind (hocketref1_Reader_Num.f K x0 false 8) fun t_5 =>
  Option.bind (hocketref1_Reader_Num.f K t_5.2.1 t_5.2.2 6) fun t_12 =>
  Option.bind (hocketref1_Reader_Num.f K t_12.2.1 t_12.2.2 6) fun t_19 =>
  Option.bind (hocketref1_Reader_Num.f K t_19.2.1 t_19.2.2 1099511627776) fun t_26 =>
  if t_5.1 = 2 then (
  Option.bind (hocketref1_Reader_Num.f K t_26.2.1 t_26.2.2 1099511627776) fun t_89 =>
  Option.bind (hocketref1_Reader_Num.f K t_89.2.1 t_89.2.2 1099511627776) fun t_96 =>
  Option.bind (hocketref1_Reader_Num.f K t_96.2.1 t_96.2.2 1) fun t_105 =>
  hocketref11_Decode.J1 K (⟨t_105.2.1, t_105.2.2⟩ : hocketref1_Reader) (⟨t_5.1, t_12.1, t_19.1, t_26.1, t_89.1, t_96.1, (t_105.1 == 1), 0, 0, 0, 0, ([] : List UInt8), 0, 0, ([] : List Int), ([] : List Int), 0, (⟨0, 0, (⟨0, 0, ([] : List UInt8), ([] : List UInt8), ([] : List UInt8)⟩ : api_Cmd)⟩ : api_Entry)⟩ : api_Msg))
  else (
  if t_5.1 = 3 then (
  Option.bind (hocketref1_Reader_Num.f K t_26.2.1 t_26.2.2 127) fun t_120 =>
  Option.bind (hocketref1_Reader_Num.f K t_120.2.1 t_120.2.2 6) fun t_127 =>
  Option.bind (hocketref1_Reader_Num.f K t_127.2.1 t_127.2.2 1099511627776) fun t_134 =>
  hocketref11_Decode.J1 K (⟨t_134.2.1, t_134.2.2⟩ : hocketref1_Reader) (⟨t_5.1, t_12.1, t_19.1, t_26.1, 0, t_134.1, false, t_120.1, t_127.1, 0, 0, ([] : List UInt8), 0, 0, ([] : List Int), ([] : List Int), 0, (⟨0, 0, (⟨0, 0, ([] : List UInt8), ([] : List UInt8), ([] : List UInt8)⟩ : api_Cmd)⟩ : api_Entry)⟩ : api_Msg))
  else (
  if t_5.1 = 4 then (
  Option.bind (hocketref1_Reader_Num.f K t_26.2.1 t_26.2.2 1099511627776) fun t_151 =>
  hocketref11_Decode.J1 K (⟨t_151.2.1, t_151.2.2⟩ : hocketref1_Reader) (⟨t_5.1, t_12.1, t_19.1, t_26.1, 0, 0, false, 0, 0, t_151.1, 0, ([] : List UInt8), 0, 0, ([] : List Int), ([] : List Int), 0, (⟨0, 0, (⟨0, 0, ([] : List UInt8), ([] : List UInt8), ([] : List UInt8)⟩ : api_Cmd)⟩ : api_Entry)⟩ : api_Msg))
  else (
  if t_5.1 = 5 then (
  Option.bind (hocketref1_Reader_Num.f K t_26.2.1 t_26.2.2 1099511627776) fun t_166 =>
  Option.bind (hocketref1_Reader_Num.f K t_166.2.1 t_166.2.2 1099511627776) fun t_173 =>
  Option.bind (hocketref1_Reader_Bytes.f K t_173.2.1 t_173.2.2 64) fun t_182 =>
  hocketref11_Decode.J1 K (⟨t_182.2.1, t_182.2.2⟩ : hocketref1_Reader) (⟨t_5.1, t_12.1, t_19.1, t_26.1, 0, 0, false, 0, 0, t_166.1, t_173.1, t_182.1, 0, 0, ([] : List Int), ([] : List Int), 0, (⟨0, 0, (⟨0, 0, ([] : List UInt8), ([] : List UInt8), ([] : List UInt8)⟩ : api_Cmd)⟩ : api_Entry)⟩ : api_Msg))
  else (
  if t_5.1 = 7 then (
  Option.bind (hocketref1_Reader_Num.f K t_26.2.1 t_26.2.2 1099511627776) fun t_200 =>
  Option.bind (hocketref1_Reader_Num.f K t_200.2.1 t_200.2.2 1099511627776) fun t_207 =>
  Option.bind (hocketref11_row.f K t_207.2.1 t_207.2.2 7) fun t_216 =>
  Option.bind (hocketref11_row.f K t_216.2.1 t_216.2.2 8) fun t_228 =>
  hocketref11_Decode.J1 K (⟨t_228.2.1, t_228.2.2⟩ : hocketref1_Reader) (⟨t_5.1, t_12.1, t_19.1, t_26.1, 0, 0, false, 0, 0, 0, 0, ([] : List UInt8), t_200.1, t_207.1, t_216.1, t_228.1, 0, (⟨0, 0, (⟨0, 0, ([] : List UInt8), ([] : List UInt8), ([] : List UInt8)⟩ : api_Cmd)⟩ : api_Entry)⟩ : api_Msg))
  else (
  if t_5.1 = 8 then (
  Option.bind (hocketref1_Reader_Num.f K t_26.2.1 t_26.2.2 1099511627776) fun t_245 =>
  Option.bind (hocketref4_GetEntry.f K t_245.2.1 t_245.2.2) fun t_253 =>
  hocketref11_Decode.J1 K (⟨t_253.2.1, t_253.2.2⟩ : hocketref1_Reader) (⟨t_5.1, t_12.1, t_19.1, t_26.1, 0, 0, false, 0, 0, 0, 0, ([] : List UInt8), 0, 0, ([] : List Int), ([] : List Int), t_245.1, t_253.1⟩ : api_Msg))
  else (
  hocketref11_Decode.J1 K (⟨t_26.2.1, t_26.2.2⟩ : hocketref1_Reader) (⟨t_5.1, t_12.1, t_19.1, t_26.1, 0, 0, false, 0, 0, 0, 0, ([] : List UInt8), 0, 0, ([] : List Int), ([] : List Int), 0, (⟨0, 0, (⟨0, 0, ([] : List UInt8), ([] : List UInt8), ([] : List UInt8)⟩ : api_Cmd)⟩ : api_Entry)⟩ : api_Msg)))))))

def crcs_Next.J1 (K : Nat) (x_3 : UInt32) : Option (UInt32) :=
  some x_3
def crcs_Next.B1 (K : Nat) (ex_9 : UInt32 → Option (UInt32)) (again_9 : UInt32 × Int → Option (UInt32)) (x_7 : UInt32) (x_8 : Int) : Option (UInt32) :=
  if x_8 < 8 then (
  if ((x_7 &&& (1 : UInt32)).toNat : Int) = ((1 : UInt32).toNat : Int) then (
  again_9 ((toU32 (shr .u32 (x_7.toNat : Int) 1)) ^^^ (3988292384 : UInt32), w64 (x_8 + 1)))
  else (
  again_9 (toU32 (shr .u32 (x_7.toNat : Int) 1), w64 (x_8 + 1))))
  else (
  ex_9 x_7)
def crcs_Next.L1 (K : Nat) (ex_9 : UInt32 → Option (UInt32)) : Nat → UInt32 × Int → Option (UInt32) :=
  iter fun again v => crcs_Next.B1 K ex_9 again v.1 v.2
def crcs_Next.f (K : Nat) (x0 : UInt32) (x1 : UInt8) : Option (UInt32) :=
  crcs_Next.L1 K (fun v => crcs_Next.J1 K v) K (x0 ^^^ (toU32 (x1.toNat : Int)), 0)

def crcs_Sum.J1 (K : Nat) (x_3 : UInt32) : Option (UInt32) :=
  some (x_3 ^^^ (4294967295 : UInt32))
def crcs_Sum.B1 (K : Nat) (x0 : List UInt8) (ex_9 : UInt32 → Option (UInt32)) (again_9 : UInt32 × Int → Option (UInt32)) (x_7 : UInt32) (x_8 : Int) : Option (UInt32) :=
  if x_8 < (x0.length : Int) then (
  Option.bind (ix x0 x_8) fun t_13 =>
  Option.bind (crcs_Next.f K x_7 t_13) fun t_18 =>
  again_9 (t_18, w64 (x_8 + 1)))
  else (
  ex_9 x_7)
def crcs_Sum.L1 (K : Nat) (x0 : List UInt8) (ex_9 : UInt32 → Option (UInt32)) : Nat → UInt32 × Int → Option (UInt32) :=
  iter fun again v => crcs_Sum.B1 K x0 ex_9 again v.1 v.2
def crcs_Sum.f (K : Nat) (x0 : List UInt8) : Option (UInt32) :=
  crcs_Sum.L1 K x0 (fun v => crcs_Sum.J1 K v) K ((4294967295 : UInt32), 0)

def fram_Sealed.f (K : Nat) (x0 : List UInt8) : Option ((List UInt8)) :=
  Option.bind (crcs_Sum.f K x0) fun t_1 =>
  Option.bind (app 140737488355328 ([toU8 (t_1.toNat : Int), toU8 ((toU32 (shr .u32 (t_1.toNat : Int) 8)).toNat : Int), toU8 ((toU32 (shr .u32 (t_1.toNat : Int) 16)).toNat : Int), toU8 ((toU32 (shr .u32 (t_1.toNat : Int) 24)).toNat : Int)] : List UInt8) x0) fun t_11 =>
  some t_11

def fram_Sound.f (K : Nat) (x0 : List UInt8) : Option ((List UInt8) × Bool) :=
  if (x0.length : Int) < 4 then (
  some (([] : List UInt8), false))
  else (
  Option.bind (ix x0 0) fun t_5 =>
  Option.bind (ix x0 1) fun t_10 =>
  Option.bind (ix x0 2) fun t_15 =>
  Option.bind (ix x0 3) fun t_20 =>
  Option.bind (cut x0 4 (x0.length : Int)) fun t_27 =>
  Option.bind (cut x0 4 (x0.length : Int)) fun t_30 =>
  Option.bind (crcs_Sum.f K t_30) fun t_33 =>
  some (t_27, ((((((toU32 (t_5.toNat : Int)) ||| (toU32 (((toU32 (t_10.toNat : Int)).toNat : Int) * 2 ^ (min (8 : Int).toNat 32)))) ||| (toU32 (((toU32 (t_15.toNat : Int)).toNat : Int) * 2 ^ (min (16 : Int).toNat 32)))) ||| (toU32 (((toU32 (t_20.toNat : Int)).toNat : Int) * 2 ^ (min (24 : Int).toNat 32)))).toNat : Int) == (t_33.toNat : Int))))

def fram_Open.J1 (K : Nat) (t_10 : api_Msg × Bool) (x_44 : Bool) : Option (api_Msg × Bool) :=
  if x_44 = true then (
  some ((⟨0, 0, 0, 0, 0, 0, false, 0, 0, 0, 0, ([] : List UInt8), 0, 0, ([] : List Int), ([] : List Int), 0, (⟨0, 0, (⟨0, 0, ([] : List UInt8), ([] : List UInt8), ([] : List UInt8)⟩ : api_Cmd)⟩ : api_Entry)⟩ : api_Msg), false))
  else (
  some (t_10.1, true))
def fram_Open.f (K : Nat) (x0 : List UInt8) : Option (api_Msg × Bool) :=
  Option.bind (fram_Sound.f K x0) fun t_3 =>
  Option.bind (mesg_Decode.f K t_3.1) fun t_10 =>
  if t_3.2 = true then (
  fram_Open.J1 K t_10 (!t_10.2))
  else (
  fram_Open.J1 K t_10 true)

def hocketref1_Next.J1 (K : Nat) (x_3 : UInt32) : Option (UInt32) :=
  some x_3
def hocketref1_Next.B1 (K : Nat) (ex_9 : UInt32 → Option (UInt32)) (again_9 : UInt32 × Int → Option (UInt32)) (x_7 : UInt32) (x_8 : Int) : Option (UInt32) :=
  if x_8 < 8 then (
  if ((x_7 &&& (1 : UInt32)).toNat : Int) = ((1 : UInt32).toNat : Int) then (
  again_9 ((toU32 (shr .u32 (x_7.toNat : Int) 1)) ^^^ (3988292384 : UInt32), w64 (x_8 + 1)))
  else (
  again_9 (toU32 (shr .u32 (x_7.toNat : Int) 1), w64 (x_8 + 1))))
  else (
  ex_9 x_7)
def hocketref1_Next.L1 (K : Nat) (ex_9 : UInt32 → Option (UInt32)) : Nat → UInt32 × Int → Option (UInt32) :=
  iter fun again v => hocketref1_Next.B1 K ex_9 again v.1 v.2
def hocketref1_Next.f (K : Nat) (x0 : UInt32) (x1 : UInt8) : Option (UInt32) :=
  hocketref1_Next.L1 K (fun v => hocketref1_Next.J1 K v) K (x0 ^^^ (toU32 (x1.toNat : Int)), 0)

def hocketref1_Sum.J1 (K : Nat) (x_3 : UInt32) : Option (UInt32) :=
  some (x_3 ^^^ (4294967295 : UInt32))
def hocketref1_Sum.B1 (K : Nat) (x0 : List UInt8) (ex_9 : UInt32 → Option (UInt32)) (again_9 : UInt32 × Int → Option (UInt32)) (x_7 : UInt32) (x_8 : Int) : Option (UInt32) :=
  if x_8 < (x0.length : Int) then (
  Option.bind (ix x0 x_8) fun t_13 =>
  Option.bind (hocketref1_Next.f K x_7 t_13) fun t_18 =>
  again_9 (t_18, w64 (x_8 + 1)))
  else (
  ex_9 x_7)
def hocketref1_Sum.L1 (K : Nat) (x0 : List UInt8) (ex_9 : UInt32 → Option (UInt32)) : Nat → UInt32 × Int → Option (UInt32) :=
  iter fun again v => hocketref1_Sum.B1 K x0 ex_9 again v.1 v.2
def hocketref1_Sum.f (K : Nat) (x0 : List UInt8) : Option (UInt32) :=
  hocketref1_Sum.L1 K x0 (fun v => hocketref1_Sum.J1 K v) K ((4294967295 : UInt32), 0)

def hocketref1_Four.f (K : Nat) (x0 : List UInt8) : Option ((List UInt8)) :=
  Option.bind (hocketref1_Sum.f K x0) fun t_1 =>
  Option.bind (app 140737488355328 ([toU8 (t_1.toNat : Int), toU8 ((toU32 (shr .u32 (t_1.toNat : Int) 8)).toNat : Int), toU8 ((toU32 (shr .u32 (t_1.toNat : Int) 16)).toNat : Int), toU8 ((toU32 (shr .u32 (t_1.toNat : Int) 24)).toNat : Int)] : List UInt8) x0) fun t_11 =>
  some t_11

def hocketref11_Wrap.f (K : Nat) (x0 : api_Msg) : Option ((List UInt8)) :=
  Option.bind (hocketref11_Ok.f K x0) fun t_4 =>
  if t_4 = true then (
  Option.bind (hocketref11_Encode.f K x0) fun t_9 =>
  Option.bind (hocketref1_Four.f K t_9) fun t_16 =>
  some t_16)
  else (
  some ([] : List UInt8))

def hocketref1_Unfour.J1 (K : Nat) (x0 : List UInt8) (x_14 : Bool) : Option ((List UInt8) × Bool) :=
  if x_14 = true then (
  some (([] : List UInt8), false))
  else (
  Option.bind (cut x0 4 (x0.length : Int)) fun t_25 =>
  Option.bind (app 140737488355328 ([] : List UInt8) t_25) fun t_28 =>
  some (t_28, true))
def hocketref1_Unfour.f (K : Nat) (x0 : List UInt8) : Option ((List UInt8) × Bool) :=
  if (x0.length : Int) < 4 then (
  some (([] : List UInt8), false))
  else (
  Option.bind (cut x0 4 (x0.length : Int)) fun t_4 =>
  Option.bind (hocketref1_Sum.f K t_4) fun t_7 =>
  Option.bind (ix x0 0) fun t_34 =>
  if (t_34.toNat : Int) = ((toU8 (t_7.toNat : Int)).toNat : Int) then (
  Option.bind (ix x0 1) fun t_40 =>
  if (t_40.toNat : Int) = ((toU8 ((toU32 (shr .u32 (t_7.toNat : Int) 8)).toNat : Int)).toNat : Int) then (
  Option.bind (ix x0 2) fun t_46 =>
  if (t_46.toNat : Int) = ((toU8 ((toU32 (shr .u32 (t_7.toNat : Int) 16)).toNat : Int)).toNat : Int) then (
  Option.bind (ix x0 3) fun t_52 =>
  hocketref1_Unfour.J1 K x0 ((t_52.toNat : Int) != ((toU8 ((toU32 (shr .u32 (t_7.toNat : Int) 24)).toNat : Int)).toNat : Int)))
  else (
  hocketref1_Unfour.J1 K x0 true))
  else (
  hocketref1_Unfour.J1 K x0 true))
  else (
  hocketref1_Unfour.J1 K x0 true))

def hocketref11_Open.f (K : Nat) (x0 : List UInt8) : Option (api_Msg × Bool) :=
  Option.bind (hocketref1_Unfour.f K x0) fun t_3 =>
  if t_3.2 = true then (
  Option.bind (hocketref11_Decode.f K t_3.1) fun t_13 =>
  some (t_13.1, t_13.2))
  else (
  some ((⟨0, 0, 0, 0, 0, 0, false, 0, 0, 0, 0, ([] : List UInt8), 0, 0, ([] : List Int), ([] : List Int), 0, (⟨0, 0, (⟨0, 0, ([] : List UInt8), ([] : List UInt8), ([] : List UInt8)⟩ : api_Cmd)⟩ : api_Entry)⟩ : api_Msg), false))

def mesg_write_1.J1 (K : Nat) (x_3 : List UInt8) : Option ((List UInt8)) :=
  some x_3
def mesg_write_1.B1 (K : Nat) (x0 : List Int) (ex_17 : (List UInt8) → Option ((List UInt8))) (again_17 : Int × (List UInt8) → Option ((List UInt8))) (x_11 : Int) (x_12 : List UInt8) : Option ((List UInt8)) :=
  if x_11 < (x0.length : Int) then (
  Option.bind (ix x0 x_11) fun t_21 =>
  Option.bind (pack_Num.f K x_12 t_21) fun t_26 =>
  again_17 (w64 (x_11 + 1), t_26))
  else (
  ex_17 x_12)
def mesg_write_1.L1 (K : Nat) (x0 : List Int) (ex_17 : (List UInt8) → Option ((List UInt8))) : Nat → Int × (List UInt8) → Option ((List UInt8)) :=
  iter fun again v => mesg_write_1.B1 K x0 ex_17 again v.1 v.2
def mesg_write_1.f (K : Nat) (x0 : List Int) (x1_ : List UInt8) : Option ((List UInt8)) :=
  mesg_write_1.L1 K x0 (fun v => mesg_write_1.J1 K v) K (0, x1_)

def mesg_write.f (K : Nat) (x0 : api_Msg) : Option ((List UInt8)) :=
  Option.bind (mesg_write_1.f K ([x0.Kind, x0.From, x0.To, x0.View] : List Int) ([] : List UInt8)) fun t_12 =>
  if x0.Kind = 2 then (
  Option.bind (mesg_flag.f x0.Has) fun t_23 =>
  Option.bind (mesg_write_1.f K ([x0.Inst, x0.Len, t_23] : List Int) t_12) fun t_33 =>
  some t_33)
  else (
  if x0.Kind = 3 then (
  Option.bind (mesg_write_1.f K ([x0.Members, x0.Source, x0.Len] : List Int) t_12) fun t_48 =>
  some t_48)
  else (
  if x0.Kind = 4 then (
  Option.bind (mesg_write_1.f K ([x0.At] : List Int) t_12) fun t_63 =>
  some t_63)
  else (
  if x0.Kind = 5 then (
  Option.bind (mesg_write_1.f K ([x0.At, x0.Total] : List Int) t_12) fun t_78 =>
  Option.bind (pack_Bytes.f K t_78 x0.Data) fun t_86 =>
  some t_86)
  else (
  if x0.Kind = 7 then (
  Option.bind (mesg_write_1.f K ([x0.Hop, x0.Seq] : List Int) t_12) fun t_102 =>
  Option.bind (mesg_row.f K t_102 x0.Have) fun t_111 =>
  Option.bind (mesg_row.f K t_111 x0.Need) fun t_119 =>
  some t_119)
  else (
  if x0.Kind = 8 then (
  Option.bind (mesg_write_1.f K ([x0.Index] : List Int) t_12) fun t_135 =>
  Option.bind (mach_PutEntry.f K t_135 x0.Entry) fun t_143 =>
  some t_143)
  else (
  some t_12))))))

def mesg_Encode.f (K : Nat) (x0 : api_Msg) : Option ((List UInt8)) :=
  Option.bind (mesg_beyond.f x0) fun t_4 =>
  if t_4 = true then (
  some ([] : List UInt8))
  else (
  Option.bind (mesg_write.f K x0) fun t_10 =>
  Option.bind (mesg_read.f K t_10) fun t_19 =>
  if t_19.2 = true then (
  Option.bind (mesg_alike.f K t_19.1 x0) fun t_52 =>
  if t_52 = true then (
  some t_10)
  else (
  some ([] : List UInt8)))
  else (
  some ([] : List UInt8)))

def hocketlaw11_awake.f (K : Nat) : Option (Unit) :=
  Option.bind (mesg_Encode.f K (⟨7, 1, 2, 300, 0, 0, false, 0, 0, 0, 0, ([] : List UInt8), 4, 5, ([5, 4] : List Int), ([5] : List Int), 0, (⟨0, 0, (⟨0, 0, ([] : List UInt8), ([] : List UInt8), ([] : List UInt8)⟩ : api_Cmd)⟩ : api_Entry)⟩ : api_Msg)) fun t_16 =>
  Option.bind (mesg_Decode.f K t_16) fun t_24 =>
  Option.bind (app 140737488355328 t_16 ([(0 : UInt8)] : List UInt8)) fun t_61 =>
  Option.bind (mesg_Decode.f K t_61) fun t_72 =>
  if t_16 = ([7, 1, 2, 172, 2, 4, 5, 2, 5, 4, 1, 5] : List UInt8) then (
  if t_24.2 = true then (
  Option.bind (mesg_Same.f K t_24.1 (⟨7, 1, 2, 300, 0, 0, false, 0, 0, 0, 0, ([] : List UInt8), 4, 5, ([5, 4] : List Int), ([5] : List Int), 0, (⟨0, 0, (⟨0, 0, ([] : List UInt8), ([] : List UInt8), ([] : List UInt8)⟩ : api_Cmd)⟩ : api_Entry)⟩ : api_Msg)) fun t_106 =>
  if t_106 = true then (
  if t_72.2 = true then (
  none)
  else (
  Option.bind (mesg_Encode.f K (⟨0, 0, 0, 0, 0, 0, false, 0, 0, 0, 0, ([] : List UInt8), 0, 0, ([] : List Int), ([] : List Int), 0, (⟨0, 0, (⟨0, 0, ([] : List UInt8), ([] : List UInt8), ([] : List UInt8)⟩ : api_Cmd)⟩ : api_Entry)⟩ : api_Msg)) fun t_112 =>
  if (t_112.length : Int) = 0 then (
  Option.bind (mesg_Encode.f K (⟨1, 7, 0, 0, 0, 0, false, 0, 0, 0, 0, ([] : List UInt8), 0, 0, ([] : List Int), ([] : List Int), 0, (⟨0, 0, (⟨0, 0, ([] : List UInt8), ([] : List UInt8), ([] : List UInt8)⟩ : api_Cmd)⟩ : api_Entry)⟩ : api_Msg)) fun t_121 =>
  if (t_121.length : Int) = 0 then (
  Option.bind (mesg_Same.f K (⟨7, 1, 2, 300, 0, 0, false, 0, 0, 0, 0, ([] : List UInt8), 4, 5, ([5, 4] : List Int), ([5] : List Int), 0, (⟨0, 0, (⟨0, 0, ([] : List UInt8), ([] : List UInt8), ([] : List UInt8)⟩ : api_Cmd)⟩ : api_Entry)⟩ : api_Msg) (⟨0, 0, 0, 0, 0, 0, false, 0, 0, 0, 0, ([] : List UInt8), 0, 0, ([] : List Int), ([] : List Int), 0, (⟨0, 0, (⟨0, 0, ([] : List UInt8), ([] : List UInt8), ([] : List UInt8)⟩ : api_Cmd)⟩ : api_Entry)⟩ : api_Msg)) fun t_130 =>
  if t_130 = true then (
  none)
  else (
  some ()))
  else (
  none))
  else (
  none)))
  else (
  none))
  else (
  none))
  else (
  none)

def hocketlaw11_MesgBounds.J2 (K : Nat) (x0 : Int) (x_17 : List An_m_ok) : Option (Unit) :=
  Option.bind (rem (band .i64 x0 255) (x_17.length : Int)) fun t_24 =>
  Option.bind (ix x_17 t_24) fun t_25 =>
  Option.bind (mesg_Encode.f K t_25.m) fun t_45 =>
  Option.bind (mesg_Decode.f K t_45) fun t_53 =>
  if (decide ((t_45.length : Int) > 0)) = t_25.ok then (
  if t_53.2 = t_25.ok then (
  Option.bind (hocketlaw11_awake.f K) fun t_87 =>
  some ())
  else (
  none))
  else (
  none)
def hocketlaw11_MesgBounds.J1 (K : Nat) (x0 : Int) (x_3 : List Int) (x_8 : List Int) : Option (Unit) :=
  Option.bind (mk 140737488355328 64 (0 : UInt8)) fun t_92 =>
  Option.bind (mk 140737488355328 65 (0 : UInt8)) fun t_98 =>
  Option.bind (mk 17592186044416 9 0) fun t_104 =>
  Option.bind (mk 140737488355328 32 (0 : UInt8)) fun t_116 =>
  Option.bind (mk 140737488355328 33 (0 : UInt8)) fun t_122 =>
  hocketlaw11_MesgBounds.J2 K x0 ([(⟨(⟨0, 0, 0, 0, 0, 0, false, 0, 0, 0, 0, ([] : List UInt8), 0, 0, ([] : List Int), ([] : List Int), 0, (⟨0, 0, (⟨0, 0, ([] : List UInt8), ([] : List UInt8), ([] : List UInt8)⟩ : api_Cmd)⟩ : api_Entry)⟩ : api_Msg), false⟩ : An_m_ok), (⟨(⟨1, 0, 0, 0, 0, 0, false, 0, 0, 0, 0, ([] : List UInt8), 0, 0, ([] : List Int), ([] : List Int), 0, (⟨0, 0, (⟨0, 0, ([] : List UInt8), ([] : List UInt8), ([] : List UInt8)⟩ : api_Cmd)⟩ : api_Entry)⟩ : api_Msg), true⟩ : An_m_ok), (⟨(⟨9, 0, 0, 0, 0, 0, false, 0, 0, 0, 0, ([] : List UInt8), 0, 0, ([] : List Int), ([] : List Int), 0, (⟨0, 0, (⟨0, 0, ([] : List UInt8), ([] : List UInt8), ([] : List UInt8)⟩ : api_Cmd)⟩ : api_Entry)⟩ : api_Msg), false⟩ : An_m_ok), (⟨(⟨(-1), 0, 0, 0, 0, 0, false, 0, 0, 0, 0, ([] : List UInt8), 0, 0, ([] : List Int), ([] : List Int), 0, (⟨0, 0, (⟨0, 0, ([] : List UInt8), ([] : List UInt8), ([] : List UInt8)⟩ : api_Cmd)⟩ : api_Entry)⟩ : api_Msg), false⟩ : An_m_ok), (⟨(⟨1, 6, 6, 1099511627776, 0, 0, false, 0, 0, 0, 0, ([] : List UInt8), 0, 0, ([] : List Int), ([] : List Int), 0, (⟨0, 0, (⟨0, 0, ([] : List UInt8), ([] : List UInt8), ([] : List UInt8)⟩ : api_Cmd)⟩ : api_Entry)⟩ : api_Msg), true⟩ : An_m_ok), (⟨(⟨1, 7, 0, 0, 0, 0, false, 0, 0, 0, 0, ([] : List UInt8), 0, 0, ([] : List Int), ([] : List Int), 0, (⟨0, 0, (⟨0, 0, ([] : List UInt8), ([] : List UInt8), ([] : List UInt8)⟩ : api_Cmd)⟩ : api_Entry)⟩ : api_Msg), false⟩ : An_m_ok), (⟨(⟨1, 0, (-1), 0, 0, 0, false, 0, 0, 0, 0, ([] : List UInt8), 0, 0, ([] : List Int), ([] : List Int), 0, (⟨0, 0, (⟨0, 0, ([] : List UInt8), ([] : List UInt8), ([] : List UInt8)⟩ : api_Cmd)⟩ : api_Entry)⟩ : api_Msg), false⟩ : An_m_ok), (⟨(⟨1, 0, 0, w64 (1099511627776 + 1), 0, 0, false, 0, 0, 0, 0, ([] : List UInt8), 0, 0, ([] : List Int), ([] : List Int), 0, (⟨0, 0, (⟨0, 0, ([] : List UInt8), ([] : List UInt8), ([] : List UInt8)⟩ : api_Cmd)⟩ : api_Entry)⟩ : api_Msg), false⟩ : An_m_ok), (⟨(⟨1, 0, 0, (-1), 0, 0, false, 0, 0, 0, 0, ([] : List UInt8), 0, 0, ([] : List Int), ([] : List Int), 0, (⟨0, 0, (⟨0, 0, ([] : List UInt8), ([] : List UInt8), ([] : List UInt8)⟩ : api_Cmd)⟩ : api_Entry)⟩ : api_Msg), false⟩ : An_m_ok), (⟨(⟨2, 0, 0, 0, 1099511627776, 1099511627776, false, 0, 0, 0, 0, ([] : List UInt8), 0, 0, ([] : List Int), ([] : List Int), 0, (⟨0, 0, (⟨0, 0, ([] : List UInt8), ([] : List UInt8), ([] : List UInt8)⟩ : api_Cmd)⟩ : api_Entry)⟩ : api_Msg), true⟩ : An_m_ok), (⟨(⟨2, 0, 0, 0, w64 (1099511627776 + 1), 0, false, 0, 0, 0, 0, ([] : List UInt8), 0, 0, ([] : List Int), ([] : List Int), 0, (⟨0, 0, (⟨0, 0, ([] : List UInt8), ([] : List UInt8), ([] : List UInt8)⟩ : api_Cmd)⟩ : api_Entry)⟩ : api_Msg), false⟩ : An_m_ok), (⟨(⟨2, 0, 0, 0, 0, (-1), false, 0, 0, 0, 0, ([] : List UInt8), 0, 0, ([] : List Int), ([] : List Int), 0, (⟨0, 0, (⟨0, 0, ([] : List UInt8), ([] : List UInt8), ([] : List UInt8)⟩ : api_Cmd)⟩ : api_Entry)⟩ : api_Msg), false⟩ : An_m_ok), (⟨(⟨3, 0, 0, 0, 0, 1099511627776, false, 127, 6, 0, 0, ([] : List UInt8), 0, 0, ([] : List Int), ([] : List Int), 0, (⟨0, 0, (⟨0, 0, ([] : List UInt8), ([] : List UInt8), ([] : List UInt8)⟩ : api_Cmd)⟩ : api_Entry)⟩ : api_Msg), true⟩ : An_m_ok), (⟨(⟨3, 0, 0, 0, 0, 0, false, 128, 0, 0, 0, ([] : List UInt8), 0, 0, ([] : List Int), ([] : List Int), 0, (⟨0, 0, (⟨0, 0, ([] : List UInt8), ([] : List UInt8), ([] : List UInt8)⟩ : api_Cmd)⟩ : api_Entry)⟩ : api_Msg), false⟩ : An_m_ok), (⟨(⟨3, 0, 0, 0, 0, 0, false, 0, 7, 0, 0, ([] : List UInt8), 0, 0, ([] : List Int), ([] : List Int), 0, (⟨0, 0, (⟨0, 0, ([] : List UInt8), ([] : List UInt8), ([] : List UInt8)⟩ : api_Cmd)⟩ : api_Entry)⟩ : api_Msg), false⟩ : An_m_ok), (⟨(⟨4, 0, 0, 0, 0, 0, false, 0, 0, 1099511627776, 0, ([] : List UInt8), 0, 0, ([] : List Int), ([] : List Int), 0, (⟨0, 0, (⟨0, 0, ([] : List UInt8), ([] : List UInt8), ([] : List UInt8)⟩ : api_Cmd)⟩ : api_Entry)⟩ : api_Msg), true⟩ : An_m_ok), (⟨(⟨4, 0, 0, 0, 0, 0, false, 0, 0, w64 (1099511627776 + 1), 0, ([] : List UInt8), 0, 0, ([] : List Int), ([] : List Int), 0, (⟨0, 0, (⟨0, 0, ([] : List UInt8), ([] : List UInt8), ([] : List UInt8)⟩ : api_Cmd)⟩ : api_Entry)⟩ : api_Msg), false⟩ : An_m_ok), (⟨(⟨5, 0, 0, 0, 0, 0, false, 0, 0, 0, 0, t_92, 0, 0, ([] : List Int), ([] : List Int), 0, (⟨0, 0, (⟨0, 0, ([] : List UInt8), ([] : List UInt8), ([] : List UInt8)⟩ : api_Cmd)⟩ : api_Entry)⟩ : api_Msg), true⟩ : An_m_ok), (⟨(⟨5, 0, 0, 0, 0, 0, false, 0, 0, 0, 0, t_98, 0, 0, ([] : List Int), ([] : List Int), 0, (⟨0, 0, (⟨0, 0, ([] : List UInt8), ([] : List UInt8), ([] : List UInt8)⟩ : api_Cmd)⟩ : api_Entry)⟩ : api_Msg), false⟩ : An_m_ok), (⟨(⟨5, 0, 0, 0, 0, 0, false, 0, 0, 0, (-1), ([] : List UInt8), 0, 0, ([] : List Int), ([] : List Int), 0, (⟨0, 0, (⟨0, 0, ([] : List UInt8), ([] : List UInt8), ([] : List UInt8)⟩ : api_Cmd)⟩ : api_Entry)⟩ : api_Msg), false⟩ : An_m_ok), (⟨(⟨7, 0, 0, 0, 0, 0, false, 0, 0, 0, 0, ([] : List UInt8), 0, 0, x_3, x_8, 0, (⟨0, 0, (⟨0, 0, ([] : List UInt8), ([] : List UInt8), ([] : List UInt8)⟩ : api_Cmd)⟩ : api_Entry)⟩ : api_Msg), true⟩ : An_m_ok), (⟨(⟨7, 0, 0, 0, 0, 0, false, 0, 0, 0, 0, ([] : List UInt8), 0, 0, x_8, ([] : List Int), 0, (⟨0, 0, (⟨0, 0, ([] : List UInt8), ([] : List UInt8), ([] : List UInt8)⟩ : api_Cmd)⟩ : api_Entry)⟩ : api_Msg), false⟩ : An_m_ok), (⟨(⟨7, 0, 0, 0, 0, 0, false, 0, 0, 0, 0, ([] : List UInt8), 0, 0, ([] : List Int), t_104, 0, (⟨0, 0, (⟨0, 0, ([] : List UInt8), ([] : List UInt8), ([] : List UInt8)⟩ : api_Cmd)⟩ : api_Entry)⟩ : api_Msg), false⟩ : An_m_ok), (⟨(⟨7, 0, 0, 0, 0, 0, false, 0, 0, 0, 0, ([] : List UInt8), 0, 0, ([(-1)] : List Int), ([] : List Int), 0, (⟨0, 0, (⟨0, 0, ([] : List UInt8), ([] : List UInt8), ([] : List UInt8)⟩ : api_Cmd)⟩ : api_Entry)⟩ : api_Msg), false⟩ : An_m_ok), (⟨(⟨7, 0, 0, 0, 0, 0, false, 0, 0, 0, 0, ([] : List UInt8), w64 (1099511627776 + 1), 0, ([] : List Int), ([] : List Int), 0, (⟨0, 0, (⟨0, 0, ([] : List UInt8), ([] : List UInt8), ([] : List UInt8)⟩ : api_Cmd)⟩ : api_Entry)⟩ : api_Msg), false⟩ : An_m_ok), (⟨(⟨8, 0, 0, 0, 0, 0, false, 0, 0, 0, 0, ([] : List UInt8), 0, 0, ([] : List Int), ([] : List Int), 1099511627776, (⟨0, 0, (⟨0, 0, ([] : List UInt8), ([] : List UInt8), ([] : List UInt8)⟩ : api_Cmd)⟩ : api_Entry)⟩ : api_Msg), true⟩ : An_m_ok), (⟨(⟨8, 0, 0, 0, 0, 0, false, 0, 0, 0, 0, ([] : List UInt8), 0, 0, ([] : List Int), ([] : List Int), 0, (⟨1073741824, 1073741824, (⟨1073741824, 1073741824, t_116, ([] : List UInt8), ([] : List UInt8)⟩ : api_Cmd)⟩ : api_Entry)⟩ : api_Msg), true⟩ : An_m_ok), (⟨(⟨8, 0, 0, 0, 0, 0, false, 0, 0, 0, 0, ([] : List UInt8), 0, 0, ([] : List Int), ([] : List Int), 0, (⟨1073741825, 0, (⟨0, 0, ([] : List UInt8), ([] : List UInt8), ([] : List UInt8)⟩ : api_Cmd)⟩ : api_Entry)⟩ : api_Msg), false⟩ : An_m_ok), (⟨(⟨8, 0, 0, 0, 0, 0, false, 0, 0, 0, 0, ([] : List UInt8), 0, 0, ([] : List Int), ([] : List Int), 0, (⟨0, 0, (⟨0, 0, ([] : List UInt8), t_122, ([] : List UInt8)⟩ : api_Cmd)⟩ : api_Entry)⟩ : api_Msg), false⟩ : An_m_ok), (⟨(⟨6, 0, 0, 0, 0, 0, false, 999, 0, 0, 0, ([] : List UInt8), 0, 0, x_8, ([] : List Int), 0, (⟨0, 0, (⟨0, 0, ([] : List UInt8), ([] : List UInt8), ([] : List UInt8)⟩ : api_Cmd)⟩ : api_Entry)⟩ : api_Msg), true⟩ : An_m_ok)] : List An_m_ok)
def hocketlaw11_MesgBounds.f (K : Nat) (x0 : Int) : Option (Unit) :=
  Option.bind (mk 17592186044416 7 0) fun t_21909 =>
  Option.bind (mk 17592186044416 8 0) fun t_21915 =>
  hocketlaw11_MesgBounds.J1 K x0 t_21909 t_21915

def hocketlaw11_MesgOwn.J5 (K : Nat) (t_1 : api_Msg) (t_23 : api_Msg) (t_51 : (List UInt8)) : Option (Unit) :=
  Option.bind (hocketref11_Same.f K t_1 t_23) fun t_124 =>
  if t_124 = true then (
  Option.bind (mesg_Encode.f K t_1) fun t_129 =>
  if t_129 = t_51 then (
  Option.bind (hocketlaw11_awake.f K) fun t_138 =>
  some ())
  else (
  none))
  else (
  none)
def hocketlaw11_MesgOwn.B1 (K : Nat) (t_59 : api_Msg × Bool) (ex_149 : Unit → Option (Unit)) (again_149 : Int × (List UInt8) → Option (Unit)) (x_143 : Int) (x_144 : List UInt8) : Option (Unit) :=
  if x_143 < (t_59.1.Data.length : Int) then (
  Option.bind (ix x_144 x_143) fun t_153 =>
  Option.bind (ix x_144 x_143) fun t_158 =>
  again_149 (w64 (x_143 + 1), (x_144.set (x_143).toNat (toU8 ((t_153.toNat : Int) + ((1 : UInt8).toNat : Int))))))
  else (
  ex_149 ())
def hocketlaw11_MesgOwn.L1 (K : Nat) (t_59 : api_Msg × Bool) (ex_149 : Unit → Option (Unit)) : Nat → Int × (List UInt8) → Option (Unit) :=
  iter fun again v => hocketlaw11_MesgOwn.B1 K t_59 ex_149 again v.1 v.2
def hocketlaw11_MesgOwn.J4 (K : Nat) (t_59 : api_Msg × Bool) (t_1 : api_Msg) (t_23 : api_Msg) (t_51 : (List UInt8)) (x_112 : List Int) : Option (Unit) :=
  hocketlaw11_MesgOwn.L1 K t_59 (fun v => hocketlaw11_MesgOwn.J5 K t_1 t_23 t_51) K (0, t_59.1.Data)
def hocketlaw11_MesgOwn.B2 (K : Nat) (t_59 : api_Msg × Bool) (ex_172 : (List Int) → Option (Unit)) (again_172 : Int × (List Int) → Option (Unit)) (x_166 : Int) (x_167 : List Int) : Option (Unit) :=
  if x_166 < (t_59.1.Need.length : Int) then (
  Option.bind (ix x_167 x_166) fun t_176 =>
  again_172 (w64 (x_166 + 1), (x_167.set (x_166).toNat 77)))
  else (
  ex_172 x_167)
def hocketlaw11_MesgOwn.L2 (K : Nat) (t_59 : api_Msg × Bool) (ex_172 : (List Int) → Option (Unit)) : Nat → Int × (List Int) → Option (Unit) :=
  iter fun again v => hocketlaw11_MesgOwn.B2 K t_59 ex_172 again v.1 v.2
def hocketlaw11_MesgOwn.J3 (K : Nat) (t_59 : api_Msg × Bool) (t_1 : api_Msg) (t_23 : api_Msg) (t_51 : (List UInt8)) (x_103 : List Int) : Option (Unit) :=
  hocketlaw11_MesgOwn.L2 K t_59 (fun v => hocketlaw11_MesgOwn.J4 K t_59 t_1 t_23 t_51 v) K (0, t_59.1.Need)
def hocketlaw11_MesgOwn.B3 (K : Nat) (t_59 : api_Msg × Bool) (ex_190 : (List Int) → Option (Unit)) (again_190 : Int × (List Int) → Option (Unit)) (x_184 : Int) (x_185 : List Int) : Option (Unit) :=
  if x_184 < (t_59.1.Have.length : Int) then (
  Option.bind (ix x_185 x_184) fun t_194 =>
  again_190 (w64 (x_184 + 1), (x_185.set (x_184).toNat 77)))
  else (
  ex_190 x_185)
def hocketlaw11_MesgOwn.L3 (K : Nat) (t_59 : api_Msg × Bool) (ex_190 : (List Int) → Option (Unit)) : Nat → Int × (List Int) → Option (Unit) :=
  iter fun again v => hocketlaw11_MesgOwn.B3 K t_59 ex_190 again v.1 v.2
def hocketlaw11_MesgOwn.J2 (K : Nat) (t_59 : api_Msg × Bool) (t_1 : api_Msg) (t_23 : api_Msg) (t_51 : (List UInt8)) (x_97 : Bool) : Option (Unit) :=
  if x_97 = true then (
  none)
  else (
  hocketlaw11_MesgOwn.L3 K t_59 (fun v => hocketlaw11_MesgOwn.J3 K t_59 t_1 t_23 t_51 v) K (0, t_59.1.Have))
def hocketlaw11_MesgOwn.J1 (K : Nat) (t_59 : api_Msg × Bool) (t_1 : api_Msg) (t_23 : api_Msg) (t_51 : (List UInt8)) : Option (Unit) :=
  if t_59.2 = true then (
  Option.bind (mesg_Encode.f K t_59.1) fun t_202 =>
  hocketlaw11_MesgOwn.J2 K t_59 t_1 t_23 t_51 (!(t_202 == t_51)))
  else (
  hocketlaw11_MesgOwn.J2 K t_59 t_1 t_23 t_51 true)
def hocketlaw11_MesgOwn.B4 (K : Nat) (t_51 : (List UInt8)) (ex_217 : Unit → Option (Unit)) (again_217 : (List UInt8) × Int → Option (Unit)) (x_211 : List UInt8) (x_216 : Int) : Option (Unit) :=
  if x_216 < (t_51.length : Int) then (
  Option.bind (ix x_211 x_216) fun t_221 =>
  again_217 ((x_211.set (x_216).toNat (255 : UInt8)), w64 (x_216 + 1)))
  else (
  ex_217 ())
def hocketlaw11_MesgOwn.L4 (K : Nat) (t_51 : (List UInt8)) (ex_217 : Unit → Option (Unit)) : Nat → (List UInt8) × Int → Option (Unit) :=
  iter fun again v => hocketlaw11_MesgOwn.B4 K t_51 ex_217 again v.1 v.2
def hocketlaw11_MesgOwn.f (K : Nat) (x0 : Int) (x1 : Int) : Option (Unit) :=
  Option.bind (hocketlaw11_Msg.f K x0 x1) fun t_1 =>
  Option.bind (hocketlaw11_Msg.f K x0 x1) fun t_23 =>
  Option.bind (mesg_Encode.f K t_1) fun t_51 =>
  Option.bind (mesg_Decode.f K t_51) fun t_59 =>
  hocketlaw11_MesgOwn.L4 K t_51 (fun v => hocketlaw11_MesgOwn.J1 K t_59 t_1 t_23 t_51) K (t_51, 0)

def hocketlaw11_MesgTells.J5 (K : Nat) : Option (Unit) :=
  Option.bind (hocketlaw11_awake.f K) fun t_94 =>
  some ()
def hocketlaw11_MesgTells.B1 (K : Nat) (x_88 : Int) (x_83 : List (List UInt8)) (ex_100 : Unit → Option (Unit)) (again_100 : Int → Option (Unit)) (x_99 : Int) : Option (Unit) :=
  if x_99 < x_88 then (
  Option.bind (ix x_83 x_99) fun t_105 =>
  Option.bind (mesg_Decode.f K t_105) fun t_112 =>
  Option.bind (hocketref11_Decode.f K t_105) fun t_143 =>
  if t_112.2 = t_143.2 then (
  Option.bind (hocketref11_Same.f K t_112.1 t_143.1) fun t_176 =>
  if t_176 = true then (
  again_100 (w64 (x_99 + 1)))
  else (
  none))
  else (
  none))
  else (
  ex_100 ())
def hocketlaw11_MesgTells.L1 (K : Nat) (x_88 : Int) (x_83 : List (List UInt8)) (ex_100 : Unit → Option (Unit)) : Nat → Int → Option (Unit) :=
  iter fun again v => hocketlaw11_MesgTells.B1 K x_88 x_83 ex_100 again v
def hocketlaw11_MesgTells.J4 (K : Nat) (x_83 : List (List UInt8)) (x_88 : Int) : Option (Unit) :=
  hocketlaw11_MesgTells.L1 K x_88 x_83 (fun v => hocketlaw11_MesgTells.J5 K) K 0
def hocketlaw11_MesgTells.J3 (K : Nat) (t_42 : (List UInt8)) (x_67 : Int) (x5 : UInt8) (x3 : List UInt8) (x_62 : List UInt8) : Option (Unit) :=
  Option.bind (cut t_42 0 x_67) fun t_182 =>
  Option.bind (app 140737488355328 ([] : List UInt8) t_42) fun t_191 =>
  Option.bind (app 140737488355328 t_191 ([x5] : List UInt8)) fun t_203 =>
  hocketlaw11_MesgTells.J4 K ([x3, t_42, x_62, t_182, t_203] : List (List UInt8)) (([x3, t_42, x_62, t_182, t_203] : List (List UInt8)).length : Int)
def hocketlaw11_MesgTells.B2 (K : Nat) (x0 : api_Msg) (t_14 : api_Msg) (ex_277 : Unit → Option (Unit)) (again_277 : Int → Option (Unit)) (x_276 : Int) : Option (Unit) :=
  if x_276 < (([x0, t_14] : List api_Msg).length : Int) then (
  Option.bind (ix ([x0, t_14] : List api_Msg) x_276) fun t_282 =>
  Option.bind (mesg_Encode.f K t_282) fun t_304 =>
  Option.bind (hocketref11_Encode.f K t_282) fun t_312 =>
  if t_304 = t_312 then (
  Option.bind (mesg_Same.f K t_282 t_14) fun t_320 =>
  Option.bind (hocketref11_Same.f K t_282 t_14) fun t_324 =>
  if t_320 = t_324 then (
  again_277 (w64 (x_276 + 1)))
  else (
  none))
  else (
  none))
  else (
  ex_277 ())
def hocketlaw11_MesgTells.L2 (K : Nat) (x0 : api_Msg) (t_14 : api_Msg) (ex_277 : Unit → Option (Unit)) : Nat → Int → Option (Unit) :=
  iter fun again v => hocketlaw11_MesgTells.B2 K x0 t_14 ex_277 again v
def hocketlaw11_MesgTells.J2 (K : Nat) (x0 : api_Msg) (t_14 : api_Msg) (t_42 : (List UInt8)) (x5 : UInt8) (x3 : List UInt8) (x_62 : List UInt8) (x_67 : Int) : Option (Unit) :=
  hocketlaw11_MesgTells.L2 K x0 t_14 (fun v => hocketlaw11_MesgTells.J3 K t_42 x_67 x5 x3 x_62) K 0
def hocketlaw11_MesgTells.J1 (K : Nat) (x1 : Int) (x2 : Int) (x4 : Int) (x0 : api_Msg) (x5 : UInt8) (x3 : List UInt8) (x_6 : Bool) : Option (Unit) :=
  if x_6 = true then (
  Option.bind (hocketlaw11_awake.f K) fun t_10 =>
  some ())
  else (
  Option.bind (hocketlaw11_Msg.f K x1 x2) fun t_14 =>
  Option.bind (hocketref11_Encode.f K t_14) fun t_42 =>
  Option.bind (app 140737488355328 ([] : List UInt8) t_42) fun t_54 =>
  if (t_54.length : Int) > 0 then (
  Option.bind (rem (band .i64 x4 65535) (t_54.length : Int)) fun t_357 =>
  Option.bind (ix t_54 t_357) fun t_358 =>
  hocketlaw11_MesgTells.J2 K x0 t_14 t_42 x5 x3 (t_54.set (t_357).toNat x5) t_357)
  else (
  hocketlaw11_MesgTells.J2 K x0 t_14 t_42 x5 x3 t_54 0))
def hocketlaw11_MesgTells.f (K : Nat) (x0 : api_Msg) (x1 : Int) (x2 : Int) (x3 : List UInt8) (x4 : Int) (x5 : UInt8) : Option (Unit) :=
  if (x3.length : Int) > 200 then (
  hocketlaw11_MesgTells.J1 K x1 x2 x4 x0 x5 x3 true)
  else (
  if (x0.Data.length : Int) > 100 then (
  hocketlaw11_MesgTells.J1 K x1 x2 x4 x0 x5 x3 true)
  else (
  if (x0.Have.length : Int) > 20 then (
  hocketlaw11_MesgTells.J1 K x1 x2 x4 x0 x5 x3 true)
  else (
  if (x0.Need.length : Int) > 20 then (
  hocketlaw11_MesgTells.J1 K x1 x2 x4 x0 x5 x3 true)
  else (
  hocketlaw11_MesgTells.J1 K x1 x2 x4 x0 x5 x3 (decide ((w64 ((w64 ((x0.Entry.Cmd.Key.length : Int) + (x0.Entry.Cmd.Val.length : Int))) + (x0.Entry.Cmd.Old.length : Int))) > 150))))))

def hocketlaw11_MesgBack.J2 (K : Nat) (x3 : List UInt8) : Option (Unit) :=
  Option.bind (mesg_Decode.f K x3) fun t_51 =>
  if t_51.2 = true then (
  Option.bind (mesg_Encode.f K t_51.1) fun t_85 =>
  if t_85 = x3 then (
  Option.bind (hocketlaw11_awake.f K) fun t_94 =>
  some ())
  else (
  none))
  else (
  Option.bind (mesg_Same.f K t_51.1 (⟨0, 0, 0, 0, 0, 0, false, 0, 0, 0, 0, ([] : List UInt8), 0, 0, ([] : List Int), ([] : List Int), 0, (⟨0, 0, (⟨0, 0, ([] : List UInt8), ([] : List UInt8), ([] : List UInt8)⟩ : api_Cmd)⟩ : api_Entry)⟩ : api_Msg)) fun t_98 =>
  if t_98 = true then (
  Option.bind (hocketlaw11_awake.f K) fun t_103 =>
  some ())
  else (
  none))
def hocketlaw11_MesgBack.J3 (K : Nat) (t_144 : api_Msg × Bool) (again_109 : Int → Option (Unit)) (x_108 : Int) (x_178 : Bool) : Option (Unit) :=
  if x_178 = true then (
  none)
  else (
  Option.bind (mesg_Encode.f K t_144.1) fun t_182 =>
  Option.bind (mesg_Decode.f K t_182) fun t_190 =>
  if t_190.2 = true then (
  Option.bind (mesg_Same.f K t_144.1 t_190.1) fun t_223 =>
  if t_223 = true then (
  again_109 (w64 (x_108 + 1)))
  else (
  none))
  else (
  none))
def hocketlaw11_MesgBack.B1 (K : Nat) (x0 : api_Msg) (t_17 : api_Msg) (ex_109 : Unit → Option (Unit)) (again_109 : Int → Option (Unit)) (x_108 : Int) : Option (Unit) :=
  if x_108 < (([x0, t_17] : List api_Msg).length : Int) then (
  Option.bind (ix ([x0, t_17] : List api_Msg) x_108) fun t_114 =>
  Option.bind (mesg_Encode.f K t_114) fun t_134 =>
  if (t_134.length : Int) = 0 then (
  again_109 (w64 (x_108 + 1)))
  else (
  Option.bind (mesg_Decode.f K t_134) fun t_144 =>
  if t_144.2 = true then (
  if t_144.1.Kind = t_114.Kind then (
  if t_144.1.From = t_114.From then (
  if t_144.1.To = t_114.To then (
  if t_144.1.View = t_114.View then (
  Option.bind (mesg_Encode.f K t_144.1) fun t_234 =>
  hocketlaw11_MesgBack.J3 K t_144 again_109 x_108 (!(t_234 == t_134)))
  else (
  hocketlaw11_MesgBack.J3 K t_144 again_109 x_108 true))
  else (
  hocketlaw11_MesgBack.J3 K t_144 again_109 x_108 true))
  else (
  hocketlaw11_MesgBack.J3 K t_144 again_109 x_108 true))
  else (
  hocketlaw11_MesgBack.J3 K t_144 again_109 x_108 true))
  else (
  hocketlaw11_MesgBack.J3 K t_144 again_109 x_108 true)))
  else (
  ex_109 ())
def hocketlaw11_MesgBack.L1 (K : Nat) (x0 : api_Msg) (t_17 : api_Msg) (ex_109 : Unit → Option (Unit)) : Nat → Int → Option (Unit) :=
  iter fun again v => hocketlaw11_MesgBack.B1 K x0 t_17 ex_109 again v
def hocketlaw11_MesgBack.J1 (K : Nat) (x1 : Int) (x2 : Int) (x0 : api_Msg) (x3 : List UInt8) (x_6 : Bool) : Option (Unit) :=
  if x_6 = true then (
  Option.bind (hocketlaw11_awake.f K) fun t_10 =>
  some ())
  else (
  Option.bind (hocketlaw11_Msg.f K x1 x2) fun t_17 =>
  hocketlaw11_MesgBack.L1 K x0 t_17 (fun v => hocketlaw11_MesgBack.J2 K x3) K 0)
def hocketlaw11_MesgBack.f (K : Nat) (x0 : api_Msg) (x1 : Int) (x2 : Int) (x3 : List UInt8) : Option (Unit) :=
  if (x3.length : Int) > 200 then (
  hocketlaw11_MesgBack.J1 K x1 x2 x0 x3 true)
  else (
  if (x0.Data.length : Int) > 100 then (
  hocketlaw11_MesgBack.J1 K x1 x2 x0 x3 true)
  else (
  if (x0.Have.length : Int) > 20 then (
  hocketlaw11_MesgBack.J1 K x1 x2 x0 x3 true)
  else (
  hocketlaw11_MesgBack.J1 K x1 x2 x0 x3 (decide ((x0.Need.length : Int) > 20)))))

def fram_Wrap.f (K : Nat) (x0 : api_Msg) : Option ((List UInt8)) :=
  Option.bind (mesg_Encode.f K x0) fun t_3 =>
  if (t_3.length : Int) = 0 then (
  some ([] : List UInt8))
  else (
  Option.bind (fram_Sealed.f K t_3) fun t_14 =>
  some t_14)

def hocketlaw12_awake.f (K : Nat) : Option (Unit) :=
  Option.bind (fram_Wrap.f K (⟨1, 1, 2, 9, 0, 0, false, 0, 0, 0, 0, ([] : List UInt8), 0, 0, ([] : List Int), ([] : List Int), 0, (⟨0, 0, (⟨0, 0, ([] : List UInt8), ([] : List UInt8), ([] : List UInt8)⟩ : api_Cmd)⟩ : api_Entry)⟩ : api_Msg)) fun t_4 =>
  Option.bind (fram_Open.f K t_4) fun t_12 =>
  Option.bind (cut t_4 0 (w64 (Int.tdiv (t_4.length : Int) 2))) fun t_44 =>
  Option.bind (fram_Open.f K t_44) fun t_47 =>
  if (t_4.length : Int) = 8 then (
  if t_12.2 = true then (
  Option.bind (hocketref11_Same.f K t_12.1 (⟨1, 1, 2, 9, 0, 0, false, 0, 0, 0, 0, ([] : List UInt8), 0, 0, ([] : List Int), ([] : List Int), 0, (⟨0, 0, (⟨0, 0, ([] : List UInt8), ([] : List UInt8), ([] : List UInt8)⟩ : api_Cmd)⟩ : api_Entry)⟩ : api_Msg)) fun t_81 =>
  if t_81 = true then (
  if t_47.2 = true then (
  none)
  else (
  Option.bind (fram_Wrap.f K (⟨0, 0, 0, 0, 0, 0, false, 0, 0, 0, 0, ([] : List UInt8), 0, 0, ([] : List Int), ([] : List Int), 0, (⟨0, 0, (⟨0, 0, ([] : List UInt8), ([] : List UInt8), ([] : List UInt8)⟩ : api_Cmd)⟩ : api_Entry)⟩ : api_Msg)) fun t_87 =>
  if (t_87.length : Int) = 0 then (
  some ())
  else (
  none)))
  else (
  none))
  else (
  none))
  else (
  none)

def hocketlaw12_FramShort.J2 (K : Nat) (t_53 : (List UInt8)) (x4 : Int) (x_190 : Bool) : Option (Unit) :=
  if x_190 = true then (
  none)
  else (
  Option.bind (cut t_53 0 (Int.tmod (band .i64 x4 65535) 4)) fun t_195 =>
  Option.bind (fram_Open.f K t_195) fun t_198 =>
  if t_198.2 = true then (
  none)
  else (
  Option.bind (hocketlaw12_awake.f K) fun t_231 =>
  some ()))
def hocketlaw12_FramShort.J1 (K : Nat) (t_53 : (List UInt8)) (t_61 : (List UInt8)) (x4 : Int) (x_72 : Bool) : Option (Unit) :=
  if x_72 = true then (
  none)
  else (
  Option.bind (fram_Open.f K t_53) fun t_76 =>
  Option.bind (fram_Open.f K t_61) fun t_107 =>
  Option.bind (app 140737488355328 ([] : List UInt8) t_53) fun t_144 =>
  Option.bind (app 140737488355328 t_144 t_53) fun t_150 =>
  Option.bind (fram_Open.f K t_150) fun t_156 =>
  if t_76.2 = true then (
  if t_107.2 = true then (
  if t_156.2 = true then (
  hocketlaw12_FramShort.J2 K t_53 x4 true)
  else (
  Option.bind (hocketref11_Same.f K t_76.1 t_107.1) fun t_239 =>
  hocketlaw12_FramShort.J2 K t_53 x4 (!((t_53 == t_61) == t_239))))
  else (
  hocketlaw12_FramShort.J2 K t_53 x4 true))
  else (
  hocketlaw12_FramShort.J2 K t_53 x4 true))
def hocketlaw12_FramShort.f (K : Nat) (x0 : Int) (x1 : Int) (x2 : Int) (x3 : Int) (x4 : Int) (x5 : UInt8) : Option (Unit) :=
  Option.bind (hocketlaw11_Msg.f K x0 x1) fun t_1 =>
  Option.bind (hocketlaw11_Msg.f K x2 x3) fun t_23 =>
  Option.bind (fram_Wrap.f K t_1) fun t_53 =>
  Option.bind (fram_Wrap.f K t_23) fun t_61 =>
  if (t_53.length : Int) < 5 then (
  hocketlaw12_FramShort.J1 K t_53 t_61 x4 true)
  else (
  hocketlaw12_FramShort.J1 K t_53 t_61 x4 (decide ((t_61.length : Int) < 5)))

def hocketlaw12_FramBursts.J3 (K : Nat) (x_58 : List UInt8) (x_63 : Bool) : Option (Unit) :=
  Option.bind (fram_Open.f K x_58) fun t_66 =>
  if t_66.2 = (!x_63) then (
  Option.bind (hocketlaw12_awake.f K) fun t_99 =>
  some ())
  else (
  none)
def hocketlaw12_FramBursts.B1 (K : Nat) (x_41 : Int) (x3 : Int) (ex_111 : (List UInt8) × Bool → Option (Unit)) (again_111 : (List UInt8) × Bool × Int → Option (Unit)) (x_104 : List UInt8) (x_109 : Bool) (x_110 : Int) : Option (Unit) :=
  if x_110 < 4 then (
  Option.bind (ix x_104 (w64 (x_41 + x_110))) fun t_116 =>
  Option.bind (ix x_104 (w64 (x_41 + x_110))) fun t_121 =>
  if x_109 = true then (
  again_111 ((x_104.set ((w64 (x_41 + x_110))).toNat (t_116 ^^^ (toU8 (shr .i64 x3 (wu64 (w64 (8 * x_110))))))), true, w64 (x_110 + 1)))
  else (
  again_111 ((x_104.set ((w64 (x_41 + x_110))).toNat (t_116 ^^^ (toU8 (shr .i64 x3 (wu64 (w64 (8 * x_110))))))), (((toU8 (shr .i64 x3 (wu64 (w64 (8 * x_110))))).toNat : Int) != ((0 : UInt8).toNat : Int)), w64 (x_110 + 1))))
  else (
  ex_111 (x_104, x_109))
def hocketlaw12_FramBursts.L1 (K : Nat) (x_41 : Int) (x3 : Int) (ex_111 : (List UInt8) × Bool → Option (Unit)) : Nat → (List UInt8) × Bool × Int → Option (Unit) :=
  iter fun again v => hocketlaw12_FramBursts.B1 K x_41 x3 ex_111 again v.1 v.2.1 v.2.2
def hocketlaw12_FramBursts.J2 (K : Nat) (t_23 : (List UInt8)) (x3 : Int) (x_41 : Int) : Option (Unit) :=
  Option.bind (app 140737488355328 ([] : List UInt8) t_23) fun t_50 =>
  hocketlaw12_FramBursts.L1 K x_41 x3 (fun v => hocketlaw12_FramBursts.J3 K v.1 v.2) K (t_50, false, 0)
def hocketlaw12_FramBursts.J1 (K : Nat) (t_23 : (List UInt8)) (x3 : Int) (t_33 : Int) (x_37 : Bool) : Option (Unit) :=
  if x_37 = true then (
  hocketlaw12_FramBursts.J2 K t_23 x3 4)
  else (
  hocketlaw12_FramBursts.J2 K t_23 x3 t_33)
def hocketlaw12_FramBursts.f (K : Nat) (x0 : Int) (x1 : Int) (x2 : Int) (x3 : Int) : Option (Unit) :=
  Option.bind (hocketlaw11_Msg.f K x0 x1) fun t_1 =>
  Option.bind (fram_Wrap.f K t_1) fun t_23 =>
  if (t_23.length : Int) < 8 then (
  none)
  else (
  Option.bind (rem (band .i64 x2 65535) (w64 ((t_23.length : Int) - 3))) fun t_33 =>
  if t_33 > 0 then (
  hocketlaw12_FramBursts.J1 K t_23 x3 t_33 (decide (t_33 < 4)))
  else (
  hocketlaw12_FramBursts.J1 K t_23 x3 t_33 false))

def hocketlaw12_FramTells.J5 (K : Nat) : Option (Unit) :=
  Option.bind (hocketlaw12_awake.f K) fun t_90 =>
  some ()
def hocketlaw12_FramTells.B1 (K : Nat) (x_84 : Int) (x_79 : List (List UInt8)) (ex_96 : Unit → Option (Unit)) (again_96 : Int → Option (Unit)) (x_95 : Int) : Option (Unit) :=
  if x_95 < x_84 then (
  Option.bind (ix x_79 x_95) fun t_101 =>
  Option.bind (fram_Open.f K t_101) fun t_108 =>
  Option.bind (hocketref11_Open.f K t_101) fun t_139 =>
  if t_108.2 = t_139.2 then (
  Option.bind (hocketref11_Same.f K t_108.1 t_139.1) fun t_172 =>
  if t_172 = true then (
  again_96 (w64 (x_95 + 1)))
  else (
  none))
  else (
  none))
  else (
  ex_96 ())
def hocketlaw12_FramTells.L1 (K : Nat) (x_84 : Int) (x_79 : List (List UInt8)) (ex_96 : Unit → Option (Unit)) : Nat → Int → Option (Unit) :=
  iter fun again v => hocketlaw12_FramTells.B1 K x_84 x_79 ex_96 again v
def hocketlaw12_FramTells.J4 (K : Nat) (x_79 : List (List UInt8)) (x_84 : Int) : Option (Unit) :=
  hocketlaw12_FramTells.L1 K x_84 x_79 (fun v => hocketlaw12_FramTells.J5 K) K 0
def hocketlaw12_FramTells.J3 (K : Nat) (t_39 : (List UInt8)) (x_66 : Int) (x5 : UInt8) (x3 : List UInt8) (x_61 : List UInt8) (x_72 : Bool) : Option (Unit) :=
  if x_72 = true then (
  none)
  else (
  Option.bind (cut t_39 0 x_66) fun t_179 =>
  Option.bind (app 140737488355328 ([] : List UInt8) t_39) fun t_188 =>
  Option.bind (app 140737488355328 t_188 ([x5] : List UInt8)) fun t_200 =>
  hocketlaw12_FramTells.J4 K ([x3, t_39, x_61, t_179, t_200] : List (List UInt8)) (([x3, t_39, x_61, t_179, t_200] : List (List UInt8)).length : Int))
def hocketlaw12_FramTells.J2 (K : Nat) (t_14 : api_Msg) (t_39 : (List UInt8)) (x0 : api_Msg) (x5 : UInt8) (x3 : List UInt8) (x_61 : List UInt8) (x_66 : Int) : Option (Unit) :=
  Option.bind (fram_Wrap.f K t_14) fun t_273 =>
  if t_273 = t_39 then (
  Option.bind (fram_Wrap.f K x0) fun t_282 =>
  Option.bind (hocketref11_Wrap.f K x0) fun t_290 =>
  hocketlaw12_FramTells.J3 K t_39 x_66 x5 x3 x_61 (!(t_282 == t_290)))
  else (
  hocketlaw12_FramTells.J3 K t_39 x_66 x5 x3 x_61 true)
def hocketlaw12_FramTells.J1 (K : Nat) (x1 : Int) (x2 : Int) (x4 : Int) (x0 : api_Msg) (x5 : UInt8) (x3 : List UInt8) (x_6 : Bool) : Option (Unit) :=
  if x_6 = true then (
  Option.bind (hocketlaw12_awake.f K) fun t_10 =>
  some ())
  else (
  Option.bind (hocketlaw11_Msg.f K x1 x2) fun t_14 =>
  Option.bind (hocketref11_Wrap.f K t_14) fun t_39 =>
  Option.bind (app 140737488355328 ([] : List UInt8) t_39) fun t_53 =>
  if (t_53.length : Int) > 0 then (
  Option.bind (rem (band .i64 x4 65535) (t_53.length : Int)) fun t_307 =>
  Option.bind (ix t_53 t_307) fun t_308 =>
  hocketlaw12_FramTells.J2 K t_14 t_39 x0 x5 x3 (t_53.set (t_307).toNat x5) t_307)
  else (
  hocketlaw12_FramTells.J2 K t_14 t_39 x0 x5 x3 t_53 0))
def hocketlaw12_FramTells.f (K : Nat) (x0 : api_Msg) (x1 : Int) (x2 : Int) (x3 : List UInt8) (x4 : Int) (x5 : UInt8) : Option (Unit) :=
  if (x3.length : Int) > 200 then (
  hocketlaw12_FramTells.J1 K x1 x2 x4 x0 x5 x3 true)
  else (
  if (x0.Data.length : Int) > 100 then (
  hocketlaw12_FramTells.J1 K x1 x2 x4 x0 x5 x3 true)
  else (
  if (x0.Have.length : Int) > 20 then (
  hocketlaw12_FramTells.J1 K x1 x2 x4 x0 x5 x3 true)
  else (
  hocketlaw12_FramTells.J1 K x1 x2 x4 x0 x5 x3 (decide ((x0.Need.length : Int) > 20)))))

def hocketlaw12_FramTurned.J2 (K : Nat) : Option (Unit) :=
  Option.bind (hocketlaw12_awake.f K) fun t_76 =>
  some ()
def hocketlaw12_FramTurned.B1 (K : Nat) (t_26 : (List UInt8)) (ex_82 : Unit → Option (Unit)) (again_82 : Int → Option (Unit)) (x_81 : Int) : Option (Unit) :=
  if x_81 < (w64 (8 * (t_26.length : Int))) then (
  Option.bind (app 140737488355328 ([] : List UInt8) t_26) fun t_93 =>
  Option.bind (ix t_93 (w64 (Int.tdiv x_81 8))) fun t_99 =>
  Option.bind (ix t_93 (w64 (Int.tdiv x_81 8))) fun t_104 =>
  Option.bind (fram_Open.f K (t_93.set ((w64 (Int.tdiv x_81 8))).toNat (t_99 ^^^ (toU8 (((1 : UInt8).toNat : Int) * 2 ^ (min (wu64 (band .i64 x_81 7) : Int).toNat 8)))))) fun t_111 =>
  if t_111.2 = true then (
  none)
  else (
  again_82 (w64 (x_81 + 1))))
  else (
  ex_82 ())
def hocketlaw12_FramTurned.L1 (K : Nat) (t_26 : (List UInt8)) (ex_82 : Unit → Option (Unit)) : Nat → Int → Option (Unit) :=
  iter fun again v => hocketlaw12_FramTurned.B1 K t_26 ex_82 again v
def hocketlaw12_FramTurned.J1 (K : Nat) (t_26 : (List UInt8)) (x_68 : Bool) : Option (Unit) :=
  if x_68 = true then (
  none)
  else (
  hocketlaw12_FramTurned.L1 K t_26 (fun v => hocketlaw12_FramTurned.J2 K) K 0)
def hocketlaw12_FramTurned.f (K : Nat) (x0 : Int) (x1 : Int) : Option (Unit) :=
  Option.bind (hocketlaw11_Msg.f K x0 x1) fun t_1 =>
  Option.bind (fram_Wrap.f K t_1) fun t_26 =>
  Option.bind (fram_Open.f K t_26) fun t_34 =>
  if t_34.2 = true then (
  Option.bind (hocketref11_Same.f K t_1 t_34.1) fun t_144 =>
  if t_144 = true then (
  hocketlaw12_FramTurned.J1 K t_26 (decide ((t_26.length : Int) > 300)))
  else (
  hocketlaw12_FramTurned.J1 K t_26 true))
  else (
  hocketlaw12_FramTurned.J1 K t_26 true)
end Go.Gp
