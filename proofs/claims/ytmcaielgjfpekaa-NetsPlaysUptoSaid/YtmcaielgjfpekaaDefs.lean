/- The functions that the law reaches, told plainly. -/
import Derived.Test.YtmcaielgjfpekaaLa
namespace Go.Gp
set_option linter.unusedVariables false
structure api_Flight where
  From : Int
  To : Int
  Bytes : List UInt8
  deriving DecidableEq
structure nets_frame where
  f : api_Flight
  turned : Bool
  deriving DecidableEq
structure api_Cmd where
  Kind : Int
  Who : Int
  Key : List UInt8
  Val : List UInt8
  Old : List UInt8
  deriving DecidableEq
structure api_Entry where
  Sess : Int
  Seq : Int
  Cmd : api_Cmd
  deriving DecidableEq
structure api_Msg where
  Kind : Int
  From : Int
  To : Int
  View : Int
  Inst : Int
  Len : Int
  Has : Bool
  Members : Int
  Source : Int
  At : Int
  Total : Int
  Data : List UInt8
  Hop : Int
  Seq : Int
  Have : List Int
  Need : List Int
  Index : Int
  Entry : api_Entry
  deriving DecidableEq
structure pack_Reader where
  b : List UInt8
  bad : Bool
  deriving DecidableEq
structure hocketref1_Reader where
  B : List UInt8
  Bad : Bool
  deriving DecidableEq
structure hocketlaw23_flight where
  from_ : Int
  to : Int
  b : List UInt8
  turned : Bool
  deriving DecidableEq
structure nets_Net where
  n : Int
  mask : Int
  l : List nets_frame
  deriving DecidableEq
def ok_api_Flight (x : api_Flight) : Prop := i64ok x.From ∧ i64ok x.To ∧ (x.Bytes.length ≤ 140737488351232 ∧ ∀ z ∈ x.Bytes, True)
def ok_nets_frame (x : nets_frame) : Prop := ok_api_Flight x.f ∧ True
def ok_api_Cmd (x : api_Cmd) : Prop := i64ok x.Kind ∧ i64ok x.Who ∧ (x.Key.length ≤ 140737488351232 ∧ ∀ z ∈ x.Key, True) ∧ (x.Val.length ≤ 140737488351232 ∧ ∀ z ∈ x.Val, True) ∧ (x.Old.length ≤ 140737488351232 ∧ ∀ z ∈ x.Old, True)
def ok_api_Entry (x : api_Entry) : Prop := i64ok x.Sess ∧ i64ok x.Seq ∧ ok_api_Cmd x.Cmd
def ok_api_Msg (x : api_Msg) : Prop := i64ok x.Kind ∧ i64ok x.From ∧ i64ok x.To ∧ i64ok x.View ∧ i64ok x.Inst ∧ i64ok x.Len ∧ True ∧ i64ok x.Members ∧ i64ok x.Source ∧ i64ok x.At ∧ i64ok x.Total ∧ (x.Data.length ≤ 140737488351232 ∧ ∀ z ∈ x.Data, True) ∧ i64ok x.Hop ∧ i64ok x.Seq ∧ (x.Have.length ≤ 140737488351232 ∧ ∀ z ∈ x.Have, i64ok z) ∧ (x.Need.length ≤ 140737488351232 ∧ ∀ z ∈ x.Need, i64ok z) ∧ i64ok x.Index ∧ ok_api_Entry x.Entry
def ok_pack_Reader (x : pack_Reader) : Prop := (x.b.length ≤ 140737488351232 ∧ ∀ z ∈ x.b, True) ∧ True
def ok_hocketref1_Reader (x : hocketref1_Reader) : Prop := (x.B.length ≤ 140737488351232 ∧ ∀ z ∈ x.B, True) ∧ True
def ok_hocketlaw23_flight (x : hocketlaw23_flight) : Prop := i64ok x.from_ ∧ i64ok x.to ∧ (x.b.length ≤ 140737488351232 ∧ ∀ z ∈ x.b, True) ∧ True
def ok_nets_Net (x : nets_Net) : Prop := i64ok x.n ∧ i64ok x.mask ∧ (x.l.length ≤ 140737488351232 ∧ ∀ z ∈ x.l, ok_nets_frame z)
def nets_New.f (x0 : Int) : Option (Int × Int × (List nets_frame)) :=
  some (mn (mx x0 1) 7, 0, ([] : List nets_frame))

def mesg_beyond.f (x0 : api_Msg) : Option (Bool) :=
  if (x0.Have.length : Int) > 7 then (
  if x0.Kind = 7 then (
  some true)
  else (
  if (x0.Need.length : Int) > 8 then (
  if (x0.Data.length : Int) > 64 then (
  some (x0.Kind == 5))
  else (
  some false))
  else (
  if (x0.Data.length : Int) > 64 then (
  some (x0.Kind == 5))
  else (
  some false))))
  else (
  if (x0.Need.length : Int) > 8 then (
  if x0.Kind = 7 then (
  some true)
  else (
  if (x0.Data.length : Int) > 64 then (
  some (x0.Kind == 5))
  else (
  some false)))
  else (
  if (x0.Data.length : Int) > 64 then (
  some (x0.Kind == 5))
  else (
  some false)))

def mesg_flag.f (x0 : Bool) : Option (Int) :=
  if x0 = true then (
  some 1)
  else (
  some 0)

def slices_Clone_sbyte_byte.f (x0 : List UInt8) : Option (List UInt8) :=
  app 140737488355328 ([] : List UInt8) x0



def pack_held.f (x0 : Int) : Option (Int) :=
  some (mn (mx x0 0) 4611686018427387904)

def pack_Num.J1 (K : Nat) (x_18 : Int) (x_19 : List UInt8) : Option ((List UInt8)) :=
  Option.bind (app 140737488355328 x_19 ([toU8 x_18] : List UInt8)) fun t_32 =>
  some t_32
def pack_Num.B1 (K : Nat) (ex_45 : Int × (List UInt8) → Option ((List UInt8))) (again_45 : Int × (List UInt8) → Option ((List UInt8))) (x_39 : Int) (x_40 : List UInt8) : Option ((List UInt8)) :=
  if x_39 ≥ 128 then (
  Option.bind (app 140737488355328 x_40 ([toU8 (bor .i64 (band .i64 x_39 127) 128)] : List UInt8)) fun t_55 =>
  again_45 (shr .i64 x_39 7, t_55))
  else (
  ex_45 (x_39, x_40))
def pack_Num.L1 (K : Nat) (ex_45 : Int × (List UInt8) → Option ((List UInt8))) : Nat → Int × (List UInt8) → Option ((List UInt8)) :=
  iter fun again v => pack_Num.B1 K ex_45 again v.1 v.2
def pack_Num.f (K : Nat) (x0 : List UInt8) (x1 : Int) : Option ((List UInt8)) :=
  Option.bind (slices_Clone_sbyte_byte.f x0) fun t_1 =>
  Option.bind (pack_held.f x1) fun t_13 =>
  pack_Num.L1 K (fun v => pack_Num.J1 K v.1 v.2) K (t_13, t_1)

def pack_Bytes.f (K : Nat) (x0 : List UInt8) (x1 : List UInt8) : Option ((List UInt8)) :=
  Option.bind (pack_Num.f K x0 (x1.length : Int)) fun t_1 =>
  Option.bind (app 140737488355328 t_1 x1) fun t_9 =>
  some t_9

def mesg_row.J1 (K : Nat) (x_11 : List UInt8) : Option ((List UInt8)) :=
  some x_11
def mesg_row.B1 (K : Nat) (x1 : List Int) (ex_25 : (List UInt8) → Option ((List UInt8))) (again_25 : (List UInt8) × Int → Option ((List UInt8))) (x_19 : List UInt8) (x_24 : Int) : Option ((List UInt8)) :=
  if x_24 < (x1.length : Int) then (
  Option.bind (ix x1 x_24) fun t_29 =>
  Option.bind (pack_Num.f K x_19 t_29) fun t_34 =>
  again_25 (t_34, w64 (x_24 + 1)))
  else (
  ex_25 x_19)
def mesg_row.L1 (K : Nat) (x1 : List Int) (ex_25 : (List UInt8) → Option ((List UInt8))) : Nat → (List UInt8) × Int → Option ((List UInt8)) :=
  iter fun again v => mesg_row.B1 K x1 ex_25 again v.1 v.2
def mesg_row.f (K : Nat) (x0 : List UInt8) (x1 : List Int) : Option ((List UInt8)) :=
  Option.bind (pack_Num.f K x0 (x1.length : Int)) fun t_1 =>
  mesg_row.L1 K x1 (fun v => mesg_row.J1 K v) K (t_1, 0)

def mach_PutEntry.J2 (K : Nat) (x_26 : List UInt8) : Option ((List UInt8)) :=
  some x_26
def mach_PutEntry.B1 (K : Nat) (x1 : api_Entry) (ex_40 : (List UInt8) → Option ((List UInt8))) (again_40 : (List UInt8) × Int → Option ((List UInt8))) (x_34 : List UInt8) (x_39 : Int) : Option ((List UInt8)) :=
  if x_39 < (([x1.Cmd.Key, x1.Cmd.Val, x1.Cmd.Old] : List (List UInt8)).length : Int) then (
  Option.bind (ix ([x1.Cmd.Key, x1.Cmd.Val, x1.Cmd.Old] : List (List UInt8)) x_39) fun t_44 =>
  Option.bind (pack_Bytes.f K x_34 t_44) fun t_51 =>
  again_40 (t_51, w64 (x_39 + 1)))
  else (
  ex_40 x_34)
def mach_PutEntry.L1 (K : Nat) (x1 : api_Entry) (ex_40 : (List UInt8) → Option ((List UInt8))) : Nat → (List UInt8) × Int → Option ((List UInt8)) :=
  iter fun again v => mach_PutEntry.B1 K x1 ex_40 again v.1 v.2
def mach_PutEntry.J1 (K : Nat) (x1 : api_Entry) (x_11 : List UInt8) : Option ((List UInt8)) :=
  mach_PutEntry.L1 K x1 (fun v => mach_PutEntry.J2 K v) K (x_11, 0)
def mach_PutEntry.B2 (K : Nat) (x1 : api_Entry) (ex_66 : (List UInt8) → Option ((List UInt8))) (again_66 : (List UInt8) × Int → Option ((List UInt8))) (x_60 : List UInt8) (x_65 : Int) : Option ((List UInt8)) :=
  if x_65 < (([x1.Sess, x1.Seq, x1.Cmd.Kind, x1.Cmd.Who] : List Int).length : Int) then (
  Option.bind (ix ([x1.Sess, x1.Seq, x1.Cmd.Kind, x1.Cmd.Who] : List Int) x_65) fun t_84 =>
  Option.bind (pack_Num.f K x_60 t_84) fun t_89 =>
  again_66 (t_89, w64 (x_65 + 1)))
  else (
  ex_66 x_60)
def mach_PutEntry.L2 (K : Nat) (x1 : api_Entry) (ex_66 : (List UInt8) → Option ((List UInt8))) : Nat → (List UInt8) × Int → Option ((List UInt8)) :=
  iter fun again v => mach_PutEntry.B2 K x1 ex_66 again v.1 v.2
def mach_PutEntry.f (K : Nat) (x0 : List UInt8) (x1 : api_Entry) : Option ((List UInt8)) :=
  Option.bind (ix ([x1.Sess, x1.Seq, x1.Cmd.Kind, x1.Cmd.Who] : List Int) 0) fun t_69 =>
  Option.bind (pack_Num.f K x0 t_69) fun t_74 =>
  mach_PutEntry.L2 K x1 (fun v => mach_PutEntry.J1 K x1 v) K (t_74, w64 (0 + 1))

def pack_Read.f (x0 : List UInt8) : Option ((List UInt8) × Bool) :=
  Option.bind (slices_Clone_sbyte_byte.f x0) fun t_1 =>
  some (t_1, false)

def pack_Reader_fail.f (x0_b : List UInt8) (x0_bad : Bool) : Option (Int × (List UInt8) × Bool) :=
  some (0, ([] : List UInt8), true)

def pack_Reader_Num.J1 (K : Nat) (x0_b : List UInt8) (x0_bad : Bool) : Option (Int × (List UInt8) × Bool) :=
  Option.bind (pack_Reader_fail.f x0_b x0_bad) fun t_5 =>
  some (t_5.1, t_5.2.1, t_5.2.2)
def pack_Reader_Num.J2 (K : Nat) (ex_15 : Unit → Option (Int × (List UInt8) × Bool)) (x_14 : Int) (t_19 : UInt8) (again_15 : Int × Int → Option (Int × (List UInt8) × Bool)) (x_13 : Int) (x1 : Int) (x0_b : List UInt8) (x0_bad : Bool) (x_27 : Bool) : Option (Int × (List UInt8) × Bool) :=
  if x_27 = true then (
  ex_15 ())
  else (
  Option.bind (must (0 ≤ (w64 (7 * x_14)))) fun u_31 =>
  if (t_19.toNat : Int) ≥ ((128 : UInt8).toNat : Int) then (
  again_15 (bor .i64 x_13 (shl .i64 ((t_19 &&& (127 : UInt8)).toNat : Int) (w64 (7 * x_14))), w64 (x_14 + 1)))
  else (
  Option.bind (pack_held.f x1) fun t_35 =>
  if (bor .i64 x_13 (shl .i64 ((t_19 &&& (127 : UInt8)).toNat : Int) (w64 (7 * x_14)))) > t_35 then (
  ex_15 ())
  else (
  Option.bind (cut x0_b (w64 (x_14 + 1)) (x0_b.length : Int)) fun t_40 =>
  some (bor .i64 x_13 (shl .i64 ((t_19 &&& (127 : UInt8)).toNat : Int) (w64 (7 * x_14))), t_40, x0_bad))))
def pack_Reader_Num.B1 (K : Nat) (x0_b : List UInt8) (x1 : Int) (x0_bad : Bool) (ex_15 : Unit → Option (Int × (List UInt8) × Bool)) (again_15 : Int × Int → Option (Int × (List UInt8) × Bool)) (x_13 : Int) (x_14 : Int) : Option (Int × (List UInt8) × Bool) :=
  if x_14 < (x0_b.length : Int) then (
  Option.bind (ix x0_b x_14) fun t_19 =>
  if x_14 > 8 then (
  pack_Reader_Num.J2 K ex_15 x_14 t_19 again_15 x_13 x1 x0_b x0_bad true)
  else (
  if (t_19.toNat : Int) = ((0 : UInt8).toNat : Int) then (
  pack_Reader_Num.J2 K ex_15 x_14 t_19 again_15 x_13 x1 x0_b x0_bad (decide (x_14 > 0)))
  else (
  pack_Reader_Num.J2 K ex_15 x_14 t_19 again_15 x_13 x1 x0_b x0_bad false)))
  else (
  ex_15 ())
def pack_Reader_Num.L1 (K : Nat) (x0_b : List UInt8) (x1 : Int) (x0_bad : Bool) (ex_15 : Unit → Option (Int × (List UInt8) × Bool)) : Nat → Int × Int → Option (Int × (List UInt8) × Bool) :=
  iter fun again v => pack_Reader_Num.B1 K x0_b x1 x0_bad ex_15 again v.1 v.2
def pack_Reader_Num.f (K : Nat) (x0_b : List UInt8) (x0_bad : Bool) (x1 : Int) : Option (Int × (List UInt8) × Bool) :=
  pack_Reader_Num.L1 K x0_b x1 x0_bad (fun v => pack_Reader_Num.J1 K x0_b x0_bad) K (0, 0)

def pack_Reader_Bytes.f (K : Nat) (x0_b : List UInt8) (x0_bad : Bool) (x1 : Int) : Option ((List UInt8) × (List UInt8) × Bool) :=
  Option.bind (pack_Reader_Num.f K x0_b x0_bad x1) fun t_1 =>
  if t_1.1 > (t_1.2.1.length : Int) then (
  Option.bind (pack_Reader_fail.f t_1.2.1 t_1.2.2) fun t_10 =>
  some (([] : List UInt8), t_10.2.1, t_10.2.2))
  else (
  Option.bind (cut t_1.2.1 0 t_1.1) fun t_18 =>
  Option.bind (slices_Clone_sbyte_byte.f t_18) fun t_21 =>
  Option.bind (cut t_1.2.1 t_1.1 (t_1.2.1.length : Int)) fun t_29 =>
  some (t_21, t_29, t_1.2.2))

def mesg_numbers.J1 (K : Nat) (x_10 : List Int) (x_15 : List UInt8) (x_18 : Bool) : Option ((List Int) × (List UInt8) × Bool) :=
  some (x_10, x_15, x_18)
def mesg_numbers.B1 (K : Nat) (t_2 : Int × (List UInt8) × Bool) (ex_32 : (List Int) × (List UInt8) × Bool → Option ((List Int) × (List UInt8) × Bool)) (again_32 : (List Int) × Int × (List UInt8) × Bool → Option ((List Int) × (List UInt8) × Bool)) (x_22 : List Int) (x_27 : Int) (x_28 : List UInt8) (x_31 : Bool) : Option ((List Int) × (List UInt8) × Bool) :=
  if x_27 < t_2.1 then (
  Option.bind (pack_Reader_Num.f K x_28 x_31 1099511627776) fun t_37 =>
  Option.bind (app 17592186044416 x_22 ([t_37.1] : List Int)) fun t_50 =>
  again_32 (t_50, w64 (x_27 + 1), t_37.2.1, t_37.2.2))
  else (
  ex_32 (x_22, x_28, x_31))
def mesg_numbers.L1 (K : Nat) (t_2 : Int × (List UInt8) × Bool) (ex_32 : (List Int) × (List UInt8) × Bool → Option ((List Int) × (List UInt8) × Bool)) : Nat → (List Int) × Int × (List UInt8) × Bool → Option ((List Int) × (List UInt8) × Bool) :=
  iter fun again v => mesg_numbers.B1 K t_2 ex_32 again v.1 v.2.1 v.2.2.1 v.2.2.2
def mesg_numbers.f (K : Nat) (x0_b : List UInt8) (x0_bad : Bool) (x1 : Int) : Option ((List Int) × (List UInt8) × Bool) :=
  Option.bind (pack_Reader_Num.f K x0_b x0_bad x1) fun t_2 =>
  mesg_numbers.L1 K t_2 (fun v => mesg_numbers.J1 K v.1 v.2.1 v.2.2) K (([] : List Int), 0, t_2.2.1, t_2.2.2)

def pack_Reader_Ok.f (x0_b : List UInt8) (x0_bad : Bool) : Option (Bool) :=
  some (!x0_bad)

def mach_GetEntry.f (K : Nat) (x0_b : List UInt8) (x0_bad : Bool) : Option (api_Entry × (List UInt8) × Bool) :=
  Option.bind (pack_Reader_Num.f K x0_b x0_bad 1073741824) fun t_3 =>
  Option.bind (pack_Reader_Num.f K t_3.2.1 t_3.2.2 1073741824) fun t_10 =>
  Option.bind (pack_Reader_Num.f K t_10.2.1 t_10.2.2 1073741824) fun t_20 =>
  Option.bind (pack_Reader_Num.f K t_20.2.1 t_20.2.2 1073741824) fun t_27 =>
  Option.bind (pack_Reader_Bytes.f K t_27.2.1 t_27.2.2 32) fun t_36 =>
  Option.bind (pack_Reader_Bytes.f K t_36.2.1 t_36.2.2 32) fun t_47 =>
  Option.bind (pack_Reader_Bytes.f K t_47.2.1 t_47.2.2 32) fun t_58 =>
  Option.bind (pack_Reader_Ok.f t_58.2.1 t_58.2.2) fun t_73 =>
  if t_73 = true then (
  some ((⟨t_3.1, t_10.1, (⟨t_20.1, t_27.1, t_36.1, t_47.1, t_58.1⟩ : api_Cmd)⟩ : api_Entry), t_58.2.1, t_58.2.2))
  else (
  some ((⟨0, 0, (⟨0, 0, ([] : List UInt8), ([] : List UInt8), ([] : List UInt8)⟩ : api_Cmd)⟩ : api_Entry), t_58.2.1, t_58.2.2))

def pack_Reader_End.f (x0_b : List UInt8) (x0_bad : Bool) : Option (Bool) :=
  if x0_bad = true then (
  some false)
  else (
  some ((x0_b.length : Int) == 0))

def mesg_read.J1 (K : Nat) (x_39 : pack_Reader) (x_42 : api_Msg) : Option (api_Msg × Bool) :=
  Option.bind (pack_Reader_End.f x_39.b x_39.bad) fun t_71 =>
  some (x_42, t_71)
def mesg_read.J2 (K : Nat) (t_28 : Int × (List UInt8) × Bool) (t_10 : Int × (List UInt8) × Bool) (t_16 : Int × (List UInt8) × Bool) (t_22 : Int × (List UInt8) × Bool) (x_78 : Bool) : Option (api_Msg × Bool) :=
  if x_78 = true then (
  mesg_read.J1 K (⟨t_28.2.1, t_28.2.2⟩ : pack_Reader) (⟨t_10.1, t_16.1, t_22.1, t_28.1, 0, 0, false, 0, 0, 0, 0, ([] : List UInt8), 0, 0, ([] : List Int), ([] : List Int), 0, (⟨0, 0, (⟨0, 0, ([] : List UInt8), ([] : List UInt8), ([] : List UInt8)⟩ : api_Cmd)⟩ : api_Entry)⟩ : api_Msg))
  else (
  if t_10.1 = 2 then (
  Option.bind (pack_Reader_Num.f K t_28.2.1 t_28.2.2 1099511627776) fun t_89 =>
  Option.bind (pack_Reader_Num.f K t_89.2.1 t_89.2.2 1099511627776) fun t_95 =>
  Option.bind (pack_Reader_Num.f K t_95.2.1 t_95.2.2 1) fun t_101 =>
  mesg_read.J1 K (⟨t_101.2.1, t_101.2.2⟩ : pack_Reader) (⟨t_10.1, t_16.1, t_22.1, t_28.1, t_89.1, t_95.1, (t_101.1 == 1), 0, 0, 0, 0, ([] : List UInt8), 0, 0, ([] : List Int), ([] : List Int), 0, (⟨0, 0, (⟨0, 0, ([] : List UInt8), ([] : List UInt8), ([] : List UInt8)⟩ : api_Cmd)⟩ : api_Entry)⟩ : api_Msg))
  else (
  if t_10.1 = 3 then (
  Option.bind (pack_Reader_Num.f K t_28.2.1 t_28.2.2 127) fun t_117 =>
  Option.bind (pack_Reader_Num.f K t_117.2.1 t_117.2.2 6) fun t_123 =>
  Option.bind (pack_Reader_Num.f K t_123.2.1 t_123.2.2 1099511627776) fun t_129 =>
  mesg_read.J1 K (⟨t_129.2.1, t_129.2.2⟩ : pack_Reader) (⟨t_10.1, t_16.1, t_22.1, t_28.1, 0, t_129.1, false, t_117.1, t_123.1, 0, 0, ([] : List UInt8), 0, 0, ([] : List Int), ([] : List Int), 0, (⟨0, 0, (⟨0, 0, ([] : List UInt8), ([] : List UInt8), ([] : List UInt8)⟩ : api_Cmd)⟩ : api_Entry)⟩ : api_Msg))
  else (
  if t_10.1 = 4 then (
  Option.bind (pack_Reader_Num.f K t_28.2.1 t_28.2.2 1099511627776) fun t_145 =>
  mesg_read.J1 K (⟨t_145.2.1, t_145.2.2⟩ : pack_Reader) (⟨t_10.1, t_16.1, t_22.1, t_28.1, 0, 0, false, 0, 0, t_145.1, 0, ([] : List UInt8), 0, 0, ([] : List Int), ([] : List Int), 0, (⟨0, 0, (⟨0, 0, ([] : List UInt8), ([] : List UInt8), ([] : List UInt8)⟩ : api_Cmd)⟩ : api_Entry)⟩ : api_Msg))
  else (
  if t_10.1 = 5 then (
  Option.bind (pack_Reader_Num.f K t_28.2.1 t_28.2.2 1099511627776) fun t_159 =>
  Option.bind (pack_Reader_Num.f K t_159.2.1 t_159.2.2 1099511627776) fun t_165 =>
  Option.bind (pack_Reader_Bytes.f K t_165.2.1 t_165.2.2 64) fun t_171 =>
  mesg_read.J1 K (⟨t_171.2.1, t_171.2.2⟩ : pack_Reader) (⟨t_10.1, t_16.1, t_22.1, t_28.1, 0, 0, false, 0, 0, t_159.1, t_165.1, t_171.1, 0, 0, ([] : List Int), ([] : List Int), 0, (⟨0, 0, (⟨0, 0, ([] : List UInt8), ([] : List UInt8), ([] : List UInt8)⟩ : api_Cmd)⟩ : api_Entry)⟩ : api_Msg))
  else (
  if t_10.1 = 7 then (
  Option.bind (pack_Reader_Num.f K t_28.2.1 t_28.2.2 1099511627776) fun t_190 =>
  Option.bind (pack_Reader_Num.f K t_190.2.1 t_190.2.2 1099511627776) fun t_196 =>
  Option.bind (mesg_numbers.f K t_196.2.1 t_196.2.2 7) fun t_204 =>
  Option.bind (mesg_numbers.f K t_204.2.1 t_204.2.2 8) fun t_214 =>
  mesg_read.J1 K (⟨t_214.2.1, t_214.2.2⟩ : pack_Reader) (⟨t_10.1, t_16.1, t_22.1, t_28.1, 0, 0, false, 0, 0, 0, 0, ([] : List UInt8), t_190.1, t_196.1, t_204.1, t_214.1, 0, (⟨0, 0, (⟨0, 0, ([] : List UInt8), ([] : List UInt8), ([] : List UInt8)⟩ : api_Cmd)⟩ : api_Entry)⟩ : api_Msg))
  else (
  if t_10.1 = 8 then (
  Option.bind (pack_Reader_Num.f K t_28.2.1 t_28.2.2 1099511627776) fun t_231 =>
  Option.bind (mach_GetEntry.f K t_231.2.1 t_231.2.2) fun t_237 =>
  mesg_read.J1 K (⟨t_237.2.1, t_237.2.2⟩ : pack_Reader) (⟨t_10.1, t_16.1, t_22.1, t_28.1, 0, 0, false, 0, 0, 0, 0, ([] : List UInt8), 0, 0, ([] : List Int), ([] : List Int), t_231.1, t_237.1⟩ : api_Msg))
  else (
  some ((⟨0, 0, 0, 0, 0, 0, false, 0, 0, 0, 0, ([] : List UInt8), 0, 0, ([] : List Int), ([] : List Int), 0, (⟨0, 0, (⟨0, 0, ([] : List UInt8), ([] : List UInt8), ([] : List UInt8)⟩ : api_Cmd)⟩ : api_Entry)⟩ : api_Msg), false))))))))
def mesg_read.f (K : Nat) (x0 : List UInt8) : Option (api_Msg × Bool) :=
  Option.bind (pack_Read.f x0) fun t_3 =>
  Option.bind (pack_Reader_Num.f K t_3.1 t_3.2 8) fun t_10 =>
  Option.bind (pack_Reader_Num.f K t_10.2.1 t_10.2.2 6) fun t_16 =>
  Option.bind (pack_Reader_Num.f K t_16.2.1 t_16.2.2 6) fun t_22 =>
  Option.bind (pack_Reader_Num.f K t_22.2.1 t_22.2.2 1099511627776) fun t_28 =>
  if t_10.1 = 1 then (
  mesg_read.J2 K t_28 t_10 t_16 t_22 (t_10.1 == 1))
  else (
  mesg_read.J2 K t_28 t_10 t_16 t_22 (t_10.1 == 6))

def bytes_Equal.f (x0 : List UInt8) (x1 : List UInt8) : Option (Bool) :=
  some (x0 == x1)

def slices_Equal_sint_int.J1 (K : Nat) : Option (Bool) :=
  some true
def slices_Equal_sint_int.B1 (K : Nat) (x0 : List Int) (x1 : List Int) (ex_9 : Unit → Option (Bool)) (again_9 : Int → Option (Bool)) (x_8 : Int) : Option (Bool) :=
  if x_8 < (x0.length : Int) then (
  Option.bind (ix x0 x_8) fun t_16 =>
  Option.bind (ix x1 x_8) fun t_21 =>
  if t_16 = t_21 then (
  again_9 (w64 (x_8 + 1)))
  else (
  some false))
  else (
  ex_9 ())
def slices_Equal_sint_int.L1 (K : Nat) (x0 : List Int) (x1 : List Int) (ex_9 : Unit → Option (Bool)) : Nat → Int → Option (Bool) :=
  iter fun again v => slices_Equal_sint_int.B1 K x0 x1 ex_9 again v
def slices_Equal_sint_int.f (K : Nat) (x0 : List Int) (x1 : List Int) : Option (Bool) :=
  if (x0.length : Int) = (x1.length : Int) then (
  slices_Equal_sint_int.L1 K x0 x1 (fun v => slices_Equal_sint_int.J1 K) K 0)
  else (
  some false)

def mach_SameEntry.f (x0 : api_Entry) (x1 : api_Entry) : Option (Bool) :=
  if x0.Sess = x1.Sess then (
  if x0.Seq = x1.Seq then (
  if x0.Cmd.Kind = x1.Cmd.Kind then (
  if x0.Cmd.Who = x1.Cmd.Who then (
  Option.bind (bytes_Equal.f x0.Cmd.Key x1.Cmd.Key) fun t_51 =>
  if t_51 = true then (
  Option.bind (bytes_Equal.f x0.Cmd.Val x1.Cmd.Val) fun t_56 =>
  if t_56 = true then (
  Option.bind (bytes_Equal.f x0.Cmd.Old x1.Cmd.Old) fun t_61 =>
  some t_61)
  else (
  some false))
  else (
  some false))
  else (
  some false))
  else (
  some false))
  else (
  some false))
  else (
  some false)

def mesg_fields.f (K : Nat) (x0 : api_Msg) (x1 : api_Msg) : Option (Bool) :=
  if x0.Kind = 2 then (
  if x0.Inst = x1.Inst then (
  if x0.Len = x1.Len then (
  some (x0.Has == x1.Has))
  else (
  some false))
  else (
  some false))
  else (
  if x0.Kind = 3 then (
  if x0.Members = x1.Members then (
  if x0.Source = x1.Source then (
  some (x0.Len == x1.Len))
  else (
  some false))
  else (
  some false))
  else (
  if x0.Kind = 4 then (
  some (x0.At == x1.At))
  else (
  if x0.Kind = 5 then (
  if x0.At = x1.At then (
  if x0.Total = x1.Total then (
  Option.bind (bytes_Equal.f x0.Data x1.Data) fun t_19 =>
  some t_19)
  else (
  some false))
  else (
  some false))
  else (
  if x0.Kind = 7 then (
  if x0.Hop = x1.Hop then (
  if x0.Seq = x1.Seq then (
  Option.bind (slices_Equal_sint_int.f K x0.Have x1.Have) fun t_27 =>
  if t_27 = true then (
  Option.bind (slices_Equal_sint_int.f K x0.Need x1.Need) fun t_32 =>
  some t_32)
  else (
  some false))
  else (
  some false))
  else (
  some false))
  else (
  if x0.Kind = 8 then (
  if x0.Index = x1.Index then (
  Option.bind (mach_SameEntry.f x0.Entry x1.Entry) fun t_39 =>
  some t_39)
  else (
  some false))
  else (
  some true))))))

def mesg_alike.f (K : Nat) (x0 : api_Msg) (x1 : api_Msg) : Option (Bool) :=
  if x0.Kind = x1.Kind then (
  if x0.From = x1.From then (
  if x0.To = x1.To then (
  if x0.View = x1.View then (
  Option.bind (mesg_fields.f K x0 x1) fun t_10 =>
  some t_10)
  else (
  some false))
  else (
  some false))
  else (
  some false))
  else (
  some false)

def crcs_Next.J1 (K : Nat) (x_3 : UInt32) : Option (UInt32) :=
  some x_3
def crcs_Next.B1 (K : Nat) (ex_9 : UInt32 → Option (UInt32)) (again_9 : UInt32 × Int → Option (UInt32)) (x_7 : UInt32) (x_8 : Int) : Option (UInt32) :=
  if x_8 < 8 then (
  if ((x_7 &&& (1 : UInt32)).toNat : Int) = ((1 : UInt32).toNat : Int) then (
  again_9 ((toU32 (shr .u32 (x_7.toNat : Int) 1)) ^^^ (3988292384 : UInt32), w64 (x_8 + 1)))
  else (
  again_9 (toU32 (shr .u32 (x_7.toNat : Int) 1), w64 (x_8 + 1))))
  else (
  ex_9 x_7)
def crcs_Next.L1 (K : Nat) (ex_9 : UInt32 → Option (UInt32)) : Nat → UInt32 × Int → Option (UInt32) :=
  iter fun again v => crcs_Next.B1 K ex_9 again v.1 v.2
def crcs_Next.f (K : Nat) (x0 : UInt32) (x1 : UInt8) : Option (UInt32) :=
  crcs_Next.L1 K (fun v => crcs_Next.J1 K v) K (x0 ^^^ (toU32 (x1.toNat : Int)), 0)

def crcs_Sum.J1 (K : Nat) (x_3 : UInt32) : Option (UInt32) :=
  some (x_3 ^^^ (4294967295 : UInt32))
def crcs_Sum.B1 (K : Nat) (x0 : List UInt8) (ex_9 : UInt32 → Option (UInt32)) (again_9 : UInt32 × Int → Option (UInt32)) (x_7 : UInt32) (x_8 : Int) : Option (UInt32) :=
  if x_8 < (x0.length : Int) then (
  Option.bind (ix x0 x_8) fun t_13 =>
  Option.bind (crcs_Next.f K x_7 t_13) fun t_18 =>
  again_9 (t_18, w64 (x_8 + 1)))
  else (
  ex_9 x_7)
def crcs_Sum.L1 (K : Nat) (x0 : List UInt8) (ex_9 : UInt32 → Option (UInt32)) : Nat → UInt32 × Int → Option (UInt32) :=
  iter fun again v => crcs_Sum.B1 K x0 ex_9 again v.1 v.2
def crcs_Sum.f (K : Nat) (x0 : List UInt8) : Option (UInt32) :=
  crcs_Sum.L1 K x0 (fun v => crcs_Sum.J1 K v) K ((4294967295 : UInt32), 0)

def fram_Sealed.f (K : Nat) (x0 : List UInt8) : Option ((List UInt8)) :=
  Option.bind (crcs_Sum.f K x0) fun t_1 =>
  Option.bind (app 140737488355328 ([toU8 (t_1.toNat : Int), toU8 ((toU32 (shr .u32 (t_1.toNat : Int) 8)).toNat : Int), toU8 ((toU32 (shr .u32 (t_1.toNat : Int) 16)).toNat : Int), toU8 ((toU32 (shr .u32 (t_1.toNat : Int) 24)).toNat : Int)] : List UInt8) x0) fun t_11 =>
  some t_11

def nets_Net_room.f (x0_n : Int) (x0_mask : Int) (x0_l : List nets_frame) : Option (Bool) :=
  some (decide ((x0_l.length : Int) < 200))

def nets_Net_has.f (x0_n : Int) (x0_mask : Int) (x0_l : List nets_frame) (x1 : Int) : Option (Bool) :=
  if x1 ≥ 0 then (
  some (decide (x1 < (x0_l.length : Int))))
  else (
  some false)

def nets_Net_At.f (x0_n : Int) (x0_mask : Int) (x0_l : List nets_frame) (x1 : Int) : Option (api_Flight × Bool) :=
  Option.bind (nets_Net_has.f x0_n x0_mask x0_l x1) fun t_4 =>
  if t_4 = true then (
  Option.bind (ix x0_l x1) fun t_9 =>
  Option.bind (slices_Clone_sbyte_byte.f t_9.f.Bytes) fun t_19 =>
  some ((⟨t_9.f.From, t_9.f.To, t_19⟩ : api_Flight), true))
  else (
  some ((⟨0, 0, ([] : List UInt8)⟩ : api_Flight), false))

def nets_Net_in.f (x0_n : Int) (x0_mask : Int) (x0_l : List nets_frame) (x1 : Int) : Option (Bool) :=
  if x1 ≥ 0 then (
  if x1 < 7 then (
  Option.bind (must (0 ≤ x1)) fun u_4 =>
  some ((band .i64 (shr .i64 x0_mask x1) 1) == 1))
  else (
  some false))
  else (
  some false)

def nets_Net_Apart.f (x0_n : Int) (x0_mask : Int) (x0_l : List nets_frame) (x1 : Int) (x2 : Int) : Option (Bool) :=
  if x0_mask = 0 then (
  some false)
  else (
  Option.bind (nets_Net_in.f x0_n x0_mask x0_l x1) fun t_3 =>
  Option.bind (nets_Net_in.f x0_n x0_mask x0_l x2) fun t_7 =>
  some (!(t_3 == t_7)))

def slices_Delete_shocket_nets_frame_hocket_nets_frame.f (x0 : List nets_frame) (x1 : Int) (x2 : Int) : Option ((List nets_frame)) :=
  Option.bind (must (0 ≤ x1 ∧ x1 ≤ x2 ∧ x2 ≤ (x0.length : Int))) fun u_1 =>
  if x1 = x2 then (
  some x0)
  else (
  some (x0.take (x1).toNat ++ x0.drop (x2).toNat))

def nets_Net_Drop.f (x0_n : Int) (x0_mask : Int) (x0_l : List nets_frame) (x1 : Int) : Option (Bool × Int × Int × (List nets_frame)) :=
  Option.bind (nets_Net_has.f x0_n x0_mask x0_l x1) fun t_2 =>
  if t_2 = true then (
  Option.bind (slices_Delete_shocket_nets_frame_hocket_nets_frame.f x0_l x1 (w64 (x1 + 1))) fun t_7 =>
  some (true, x0_n, x0_mask, t_7))
  else (
  some (false, x0_n, x0_mask, x0_l))

def fram_Sound.f (K : Nat) (x0 : List UInt8) : Option ((List UInt8) × Bool) :=
  if (x0.length : Int) < 4 then (
  some (([] : List UInt8), false))
  else (
  Option.bind (ix x0 0) fun t_5 =>
  Option.bind (ix x0 1) fun t_10 =>
  Option.bind (ix x0 2) fun t_15 =>
  Option.bind (ix x0 3) fun t_20 =>
  Option.bind (cut x0 4 (x0.length : Int)) fun t_27 =>
  Option.bind (cut x0 4 (x0.length : Int)) fun t_30 =>
  Option.bind (crcs_Sum.f K t_30) fun t_33 =>
  some (t_27, ((((((toU32 (t_5.toNat : Int)) ||| (toU32 (((toU32 (t_10.toNat : Int)).toNat : Int) * 2 ^ (min (8 : Int).toNat 32)))) ||| (toU32 (((toU32 (t_15.toNat : Int)).toNat : Int) * 2 ^ (min (16 : Int).toNat 32)))) ||| (toU32 (((toU32 (t_20.toNat : Int)).toNat : Int) * 2 ^ (min (24 : Int).toNat 32)))).toNat : Int) == (t_33.toNat : Int))))

def mesg_Decode.f (K : Nat) (x0 : List UInt8) : Option (api_Msg × Bool) :=
  Option.bind (mesg_read.f K x0) fun t_3 =>
  if t_3.2 = true then (
  some (t_3.1, true))
  else (
  some ((⟨0, 0, 0, 0, 0, 0, false, 0, 0, 0, 0, ([] : List UInt8), 0, 0, ([] : List Int), ([] : List Int), 0, (⟨0, 0, (⟨0, 0, ([] : List UInt8), ([] : List UInt8), ([] : List UInt8)⟩ : api_Cmd)⟩ : api_Entry)⟩ : api_Msg), false))

def fram_Open.J1 (K : Nat) (t_10 : api_Msg × Bool) (x_44 : Bool) : Option (api_Msg × Bool) :=
  if x_44 = true then (
  some ((⟨0, 0, 0, 0, 0, 0, false, 0, 0, 0, 0, ([] : List UInt8), 0, 0, ([] : List Int), ([] : List Int), 0, (⟨0, 0, (⟨0, 0, ([] : List UInt8), ([] : List UInt8), ([] : List UInt8)⟩ : api_Cmd)⟩ : api_Entry)⟩ : api_Msg), false))
  else (
  some (t_10.1, true))
def fram_Open.f (K : Nat) (x0 : List UInt8) : Option (api_Msg × Bool) :=
  Option.bind (fram_Sound.f K x0) fun t_3 =>
  Option.bind (mesg_Decode.f K t_3.1) fun t_10 =>
  if t_3.2 = true then (
  fram_Open.J1 K t_10 (!t_10.2))
  else (
  fram_Open.J1 K t_10 true)

def nets_Net_Take.f (K : Nat) (x0_n : Int) (x0_mask : Int) (x0_l : List nets_frame) (x1 : Int) : Option (api_Msg × Bool × Int × Int × (List nets_frame)) :=
  Option.bind (nets_Net_At.f x0_n x0_mask x0_l x1) fun t_3 =>
  if t_3.2 = true then (
  Option.bind (nets_Net_Drop.f x0_n x0_mask x0_l x1) fun t_16 =>
  Option.bind (nets_Net_Apart.f t_16.2.1 t_16.2.2.1 t_16.2.2.2 t_3.1.From t_3.1.To) fun t_26 =>
  if t_26 = true then (
  some ((⟨0, 0, 0, 0, 0, 0, false, 0, 0, 0, 0, ([] : List UInt8), 0, 0, ([] : List Int), ([] : List Int), 0, (⟨0, 0, (⟨0, 0, ([] : List UInt8), ([] : List UInt8), ([] : List UInt8)⟩ : api_Cmd)⟩ : api_Entry)⟩ : api_Msg), false, t_16.2.1, t_16.2.2.1, t_16.2.2.2))
  else (
  Option.bind (fram_Open.f K t_3.1.Bytes) fun t_38 =>
  some (t_38.1, t_38.2, t_16.2.1, t_16.2.2.1, t_16.2.2.2)))
  else (
  some ((⟨0, 0, 0, 0, 0, 0, false, 0, 0, 0, 0, ([] : List UInt8), 0, 0, ([] : List Int), ([] : List Int), 0, (⟨0, 0, (⟨0, 0, ([] : List UInt8), ([] : List UInt8), ([] : List UInt8)⟩ : api_Cmd)⟩ : api_Entry)⟩ : api_Msg), false, x0_n, x0_mask, x0_l))

def nets_Net_Count.f (x0_n : Int) (x0_mask : Int) (x0_l : List nets_frame) : Option (Int) :=
  some (x0_l.length : Int)

def nets_Net_Twice.J1 (x0_n : Int) (x0_mask : Int) (x0_l : List nets_frame) (x1 : Int) (t_1 : api_Flight × Bool) (x_15 : Bool) : Option (Bool × Int × Int × (List nets_frame)) :=
  if x_15 = true then (
  some (false, x0_n, x0_mask, x0_l))
  else (
  Option.bind (ix x0_l x1) fun t_21 =>
  Option.bind (app 2932031007402 x0_l ([(⟨t_1.1, t_21.turned⟩ : nets_frame)] : List nets_frame)) fun t_35 =>
  some (true, x0_n, x0_mask, t_35))
def nets_Net_Twice.f (x0_n : Int) (x0_mask : Int) (x0_l : List nets_frame) (x1 : Int) : Option (Bool × Int × Int × (List nets_frame)) :=
  Option.bind (nets_Net_At.f x0_n x0_mask x0_l x1) fun t_1 =>
  if t_1.2 = true then (
  Option.bind (nets_Net_room.f x0_n x0_mask x0_l) fun t_92 =>
  nets_Net_Twice.J1 x0_n x0_mask x0_l x1 t_1 (!t_92))
  else (
  nets_Net_Twice.J1 x0_n x0_mask x0_l x1 t_1 true)

def nets_Net_Flip.J1 (x0_n : Int) (x0_mask : Int) (x0_l : List nets_frame) (x1 : Int) (x2 : Int) (x_4 : Bool) : Option (Bool × Int × Int × (List nets_frame)) :=
  if x_4 = true then (
  some (false, x0_n, x0_mask, x0_l))
  else (
  Option.bind (ix x0_l x1) fun t_8 =>
  Option.bind (slices_Clone_sbyte_byte.f t_8.f.Bytes) fun t_15 =>
  Option.bind (rem x2 (w64 (8 * (t_15.length : Int)))) fun t_23 =>
  Option.bind (ix t_15 (w64 (Int.tdiv t_23 8))) fun t_26 =>
  Option.bind (must (0 ≤ (Int.tmod t_23 8))) fun u_31 =>
  Option.bind (ix t_15 (w64 (Int.tdiv t_23 8))) fun t_32 =>
  Option.bind (ix x0_l x1) fun t_41 =>
  Option.bind (ix (x0_l.set (x1).toNat (⟨(⟨t_41.f.From, t_41.f.To, (t_15.set ((w64 (Int.tdiv t_23 8))).toNat (t_26 ^^^ (toU8 (((1 : UInt8).toNat : Int) * 2 ^ (min (Int.tmod t_23 8 : Int).toNat 8)))))⟩ : api_Flight), t_41.turned⟩ : nets_frame)) x1) fun t_51 =>
  some (true, x0_n, x0_mask, ((x0_l.set (x1).toNat (⟨(⟨t_41.f.From, t_41.f.To, (t_15.set ((w64 (Int.tdiv t_23 8))).toNat (t_26 ^^^ (toU8 (((1 : UInt8).toNat : Int) * 2 ^ (min (Int.tmod t_23 8 : Int).toNat 8)))))⟩ : api_Flight), t_41.turned⟩ : nets_frame)).set (x1).toNat (⟨t_51.f, true⟩ : nets_frame))))
def nets_Net_Flip.f (x0_n : Int) (x0_mask : Int) (x0_l : List nets_frame) (x1 : Int) (x2 : Int) : Option (Bool × Int × Int × (List nets_frame)) :=
  Option.bind (nets_Net_has.f x0_n x0_mask x0_l x1) fun t_60 =>
  if t_60 = true then (
  if x2 < 0 then (
  nets_Net_Flip.J1 x0_n x0_mask x0_l x1 x2 true)
  else (
  Option.bind (ix x0_l x1) fun t_66 =>
  nets_Net_Flip.J1 x0_n x0_mask x0_l x1 x2 t_66.turned))
  else (
  nets_Net_Flip.J1 x0_n x0_mask x0_l x1 x2 true)

def nets_Net_Split.f (x0_n : Int) (x0_mask : Int) (x0_l : List nets_frame) (x1 : Int) : Option (Int × Int × (List nets_frame)) :=
  some (x0_n, x1, x0_l)

def hocketlaw7_Keys.f (x0 : Int) : Option ((List UInt8)) :=
  Option.bind (ix ([([] : List UInt8), ([97] : List UInt8), ([98] : List UInt8), ([99] : List UInt8), ([97, 98] : List UInt8), ([97, 98, 99] : List UInt8), ([122] : List UInt8), ([0] : List UInt8), ([255] : List UInt8), ([97, 98, 99, 100, 101, 102, 103, 104] : List UInt8), ([97, 98, 99, 100, 101, 102, 103, 104, 105] : List UInt8), ([107, 49] : List UInt8), ([107, 50] : List UInt8), ([107, 51] : List UInt8), ([107, 52] : List UInt8), ([107, 53] : List UInt8)] : List (List UInt8)) (band .i64 x0 15)) fun t_7 =>
  Option.bind (must (t_7.length ≤ 9223372036854775807)) fun u_12 =>
  some t_7

def hocketlaw8_Cmd.J3 (x0 : Int) (x_23 : api_Cmd) (x_39 : Int) : Option (api_Cmd) :=
  if (band .i64 (shr .i64 x0 19) 31) = 0 then (
  some (⟨band .i64 (shr .i64 x0 24) 31, w64 ((band .i64 (shr .i64 x0 17) 2047) - 20), x_23.Key, x_23.Val, x_23.Old⟩ : api_Cmd))
  else (
  some (⟨x_39, x_23.Who, x_23.Key, x_23.Val, x_23.Old⟩ : api_Cmd))
def hocketlaw8_Cmd.J2 (x0 : Int) (x_23 : api_Cmd) (x_35 : Bool) : Option (api_Cmd) :=
  if x_35 = true then (
  Option.bind (ix ([1, 2, 4, 9] : List Int) (band .i64 (shr .i64 x0 17) 3)) fun t_55 =>
  hocketlaw8_Cmd.J3 x0 x_23 t_55)
  else (
  hocketlaw8_Cmd.J3 x0 x_23 x_23.Kind)
def hocketlaw8_Cmd.J1 (x0 : Int) (x_23 : api_Cmd) : Option (api_Cmd) :=
  if x_23.Kind = 0 then (
  hocketlaw8_Cmd.J2 x0 x_23 true)
  else (
  hocketlaw8_Cmd.J2 x0 x_23 (x_23.Kind == 12))
def hocketlaw8_Cmd.f (x0 : Int) : Option (api_Cmd) :=
  Option.bind (ix ([([] : List UInt8), ([97] : List UInt8), ([98] : List UInt8), ([97, 98] : List UInt8), ([118, 97, 108, 117, 101] : List UInt8), ([48, 49, 50, 51, 52, 53, 54, 55, 56, 57, 97, 98, 99, 100, 101, 102] : List UInt8), ([48, 49, 50, 51, 52, 53, 54, 55, 56, 57, 97, 98, 99, 100, 101, 102, 103] : List UInt8), ([0, 255] : List UInt8)] : List (List UInt8)) (band .i64 (shr .i64 x0 5) 7)) fun t_9 =>
  Option.bind (must (t_9.length ≤ 9223372036854775807)) fun u_14 =>
  Option.bind (hocketlaw7_Keys.f (shr .i64 x0 11)) fun t_63 =>
  Option.bind (ix ([([] : List UInt8), ([97] : List UInt8), ([98] : List UInt8), ([97, 98] : List UInt8)] : List (List UInt8)) (band .i64 (shr .i64 x0 15) 3)) fun t_75 =>
  Option.bind (must (t_75.length ≤ 9223372036854775807)) fun u_85 =>
  hocketlaw8_Cmd.J1 x0 (⟨w64 ((Int.tmod (band .i64 x0 31) 13) + 0), band .i64 (shr .i64 x0 8) 7, t_63, t_9, t_75⟩ : api_Cmd)

def hocketlaw10_Entry.f (x0 : Int) (x1 : Int) : Option (api_Entry) :=
  Option.bind (hocketlaw8_Cmd.f x0) fun t_3 =>
  some (⟨w64 ((Int.tmod (band .i64 (shr .i64 x0 25) 7) 6) + 1), w64 ((w64 ((w64 (Int.tdiv x1 3)) + (band .i64 (shr .i64 x0 28) 1))) + 1), t_3⟩ : api_Entry)

def hocketlaw11_Msg.J1 (K : Nat) (x0 : Int) (x1 : Int) (x_34 : List UInt8) : Option (api_Msg) :=
  some (⟨w64 ((band .i64 x0 7) + 1), Int.tmod (band .i64 (shr .i64 x0 3) 7) 7, Int.tmod (band .i64 (shr .i64 x0 6) 7) 7, band .i64 (shr .i64 x0 9) 1023, 0, 0, false, 0, 0, band .i64 x1 4095, band .i64 (shr .i64 x1 12) 4095, x_34, 0, 0, ([] : List Int), ([] : List Int), 0, (⟨0, 0, (⟨0, 0, ([] : List UInt8), ([] : List UInt8), ([] : List UInt8)⟩ : api_Cmd)⟩ : api_Entry)⟩ : api_Msg)
def hocketlaw11_Msg.B1 (K : Nat) (x1 : Int) (ex_51 : (List UInt8) → Option (api_Msg)) (again_51 : Int × (List UInt8) → Option (api_Msg)) (x_45 : Int) (x_46 : List UInt8) : Option (api_Msg) :=
  if x_45 < (band .i64 (shr .i64 x1 24) 63) then (
  Option.bind (app 140737488355328 x_46 ([toU8 (shr .i64 x1 (wu64 (band .i64 x_45 15)))] : List UInt8)) fun t_62 =>
  again_51 (w64 (x_45 + 1), t_62))
  else (
  ex_51 x_46)
def hocketlaw11_Msg.L1 (K : Nat) (x1 : Int) (ex_51 : (List UInt8) → Option (api_Msg)) : Nat → Int × (List UInt8) → Option (api_Msg) :=
  iter fun again v => hocketlaw11_Msg.B1 K x1 ex_51 again v.1 v.2
def hocketlaw11_Msg.J3 (K : Nat) (x0 : Int) (x1 : Int) (x_74 : List Int) (x_83 : List Int) : Option (api_Msg) :=
  some (⟨w64 ((band .i64 x0 7) + 1), Int.tmod (band .i64 (shr .i64 x0 3) 7) 7, Int.tmod (band .i64 (shr .i64 x0 6) 7) 7, band .i64 (shr .i64 x0 9) 1023, 0, 0, false, 0, 0, 0, 0, ([] : List UInt8), band .i64 x1 1023, band .i64 (shr .i64 x1 10) 255, x_74, x_83, 0, (⟨0, 0, (⟨0, 0, ([] : List UInt8), ([] : List UInt8), ([] : List UInt8)⟩ : api_Cmd)⟩ : api_Entry)⟩ : api_Msg)
def hocketlaw11_Msg.B2 (K : Nat) (x1 : Int) (ex_99 : (List Int) → Option (api_Msg)) (again_99 : Int × (List Int) → Option (api_Msg)) (x_93 : Int) (x_94 : List Int) : Option (api_Msg) :=
  if x_93 < (band .i64 (shr .i64 x1 21) 7) then (
  Option.bind (app 17592186044416 x_94 ([band .i64 (shr .i64 x1 (wu64 (w64 (x_93 + 3)))) 63] : List Int)) fun t_110 =>
  again_99 (w64 (x_93 + 1), t_110))
  else (
  ex_99 x_94)
def hocketlaw11_Msg.L2 (K : Nat) (x1 : Int) (ex_99 : (List Int) → Option (api_Msg)) : Nat → Int × (List Int) → Option (api_Msg) :=
  iter fun again v => hocketlaw11_Msg.B2 K x1 ex_99 again v.1 v.2
def hocketlaw11_Msg.J2 (K : Nat) (x1 : Int) (x0 : Int) (x_74 : List Int) : Option (api_Msg) :=
  hocketlaw11_Msg.L2 K x1 (fun v => hocketlaw11_Msg.J3 K x0 x1 x_74 v) K (0, ([] : List Int))
def hocketlaw11_Msg.B3 (K : Nat) (x1 : Int) (ex_124 : (List Int) → Option (api_Msg)) (again_124 : Int × (List Int) → Option (api_Msg)) (x_118 : Int) (x_119 : List Int) : Option (api_Msg) :=
  if x_118 < (band .i64 (shr .i64 x1 18) 7) then (
  Option.bind (app 17592186044416 x_119 ([band .i64 (shr .i64 x1 (wu64 x_118)) 63] : List Int)) fun t_135 =>
  again_124 (w64 (x_118 + 1), t_135))
  else (
  ex_124 x_119)
def hocketlaw11_Msg.L3 (K : Nat) (x1 : Int) (ex_124 : (List Int) → Option (api_Msg)) : Nat → Int × (List Int) → Option (api_Msg) :=
  iter fun again v => hocketlaw11_Msg.B3 K x1 ex_124 again v.1 v.2
def hocketlaw11_Msg.f (K : Nat) (x0 : Int) (x1 : Int) : Option (api_Msg) :=
  if (w64 ((band .i64 x0 7) + 1)) = 2 then (
  some (⟨w64 ((band .i64 x0 7) + 1), Int.tmod (band .i64 (shr .i64 x0 3) 7) 7, Int.tmod (band .i64 (shr .i64 x0 6) 7) 7, band .i64 (shr .i64 x0 9) 1023, band .i64 x1 255, band .i64 (shr .i64 x1 8) 63, ((band .i64 (shr .i64 x1 14) 1) == 1), 0, 0, 0, 0, ([] : List UInt8), 0, 0, ([] : List Int), ([] : List Int), 0, (⟨0, 0, (⟨0, 0, ([] : List UInt8), ([] : List UInt8), ([] : List UInt8)⟩ : api_Cmd)⟩ : api_Entry)⟩ : api_Msg))
  else (
  if (w64 ((band .i64 x0 7) + 1)) = 3 then (
  some (⟨w64 ((band .i64 x0 7) + 1), Int.tmod (band .i64 (shr .i64 x0 3) 7) 7, Int.tmod (band .i64 (shr .i64 x0 6) 7) 7, band .i64 (shr .i64 x0 9) 1023, 0, band .i64 (shr .i64 x1 10) 63, false, band .i64 x1 127, Int.tmod (band .i64 (shr .i64 x1 7) 7) 7, 0, 0, ([] : List UInt8), 0, 0, ([] : List Int), ([] : List Int), 0, (⟨0, 0, (⟨0, 0, ([] : List UInt8), ([] : List UInt8), ([] : List UInt8)⟩ : api_Cmd)⟩ : api_Entry)⟩ : api_Msg))
  else (
  if (w64 ((band .i64 x0 7) + 1)) = 4 then (
  some (⟨w64 ((band .i64 x0 7) + 1), Int.tmod (band .i64 (shr .i64 x0 3) 7) 7, Int.tmod (band .i64 (shr .i64 x0 6) 7) 7, band .i64 (shr .i64 x0 9) 1023, 0, 0, false, 0, 0, band .i64 x1 4095, 0, ([] : List UInt8), 0, 0, ([] : List Int), ([] : List Int), 0, (⟨0, 0, (⟨0, 0, ([] : List UInt8), ([] : List UInt8), ([] : List UInt8)⟩ : api_Cmd)⟩ : api_Entry)⟩ : api_Msg))
  else (
  if (w64 ((band .i64 x0 7) + 1)) = 5 then (
  hocketlaw11_Msg.L1 K x1 (fun v => hocketlaw11_Msg.J1 K x0 x1 v) K (0, ([] : List UInt8)))
  else (
  if (w64 ((band .i64 x0 7) + 1)) = 7 then (
  hocketlaw11_Msg.L3 K x1 (fun v => hocketlaw11_Msg.J2 K x1 x0 v) K (0, ([] : List Int)))
  else (
  if (w64 ((band .i64 x0 7) + 1)) = 8 then (
  Option.bind (hocketlaw10_Entry.f x0 (band .i64 (shr .i64 x1 10) 63)) fun t_143 =>
  some (⟨w64 ((band .i64 x0 7) + 1), Int.tmod (band .i64 (shr .i64 x0 3) 7) 7, Int.tmod (band .i64 (shr .i64 x0 6) 7) 7, band .i64 (shr .i64 x0 9) 1023, 0, 0, false, 0, 0, 0, 0, ([] : List UInt8), 0, 0, ([] : List Int), ([] : List Int), band .i64 x1 1023, (⟨t_143.Sess, t_143.Seq, (⟨t_143.Cmd.Kind, mx t_143.Cmd.Who 0, t_143.Cmd.Key, t_143.Cmd.Val, t_143.Cmd.Old⟩ : api_Cmd)⟩ : api_Entry)⟩ : api_Msg))
  else (
  some (⟨w64 ((band .i64 x0 7) + 1), Int.tmod (band .i64 (shr .i64 x0 3) 7) 7, Int.tmod (band .i64 (shr .i64 x0 6) 7) 7, band .i64 (shr .i64 x0 9) 1023, 0, 0, false, 0, 0, 0, 0, ([] : List UInt8), 0, 0, ([] : List Int), ([] : List Int), 0, (⟨0, 0, (⟨0, 0, ([] : List UInt8), ([] : List UInt8), ([] : List UInt8)⟩ : api_Cmd)⟩ : api_Entry)⟩ : api_Msg)))))))

def hocketref1_SameInts.J1 (K : Nat) : Option (Bool) :=
  some true
def hocketref1_SameInts.B1 (K : Nat) (x0 : List Int) (x1 : List Int) (ex_9 : Unit → Option (Bool)) (again_9 : Int → Option (Bool)) (x_8 : Int) : Option (Bool) :=
  if x_8 < (x0.length : Int) then (
  Option.bind (ix x0 x_8) fun t_16 =>
  Option.bind (ix x1 x_8) fun t_21 =>
  if t_16 = t_21 then (
  again_9 (w64 (x_8 + 1)))
  else (
  some false))
  else (
  ex_9 ())
def hocketref1_SameInts.L1 (K : Nat) (x0 : List Int) (x1 : List Int) (ex_9 : Unit → Option (Bool)) : Nat → Int → Option (Bool) :=
  iter fun again v => hocketref1_SameInts.B1 K x0 x1 ex_9 again v
def hocketref1_SameInts.f (K : Nat) (x0 : List Int) (x1 : List Int) : Option (Bool) :=
  if (x0.length : Int) = (x1.length : Int) then (
  hocketref1_SameInts.L1 K x0 x1 (fun v => hocketref1_SameInts.J1 K) K 0)
  else (
  some false)

def hocketref4_SameEntry.f (x0 : api_Entry) (x1 : api_Entry) : Option (Bool) :=
  if x0.Sess = x1.Sess then (
  if x0.Seq = x1.Seq then (
  if x0.Cmd.Kind = x1.Cmd.Kind then (
  if x0.Cmd.Who = x1.Cmd.Who then (
  if x0.Cmd.Key = x1.Cmd.Key then (
  if x0.Cmd.Val = x1.Cmd.Val then (
  some (x0.Cmd.Old == x1.Cmd.Old))
  else (
  some false))
  else (
  some false))
  else (
  some false))
  else (
  some false))
  else (
  some false))
  else (
  some false)

def hocketref11_Same.f (K : Nat) (x0 : api_Msg) (x1 : api_Msg) : Option (Bool) :=
  if x0.Kind = x1.Kind then (
  if x0.From = x1.From then (
  if x0.To = x1.To then (
  if x0.View = x1.View then (
  if x0.Inst = x1.Inst then (
  if x0.Len = x1.Len then (
  if x0.Has = x1.Has then (
  if x0.Members = x1.Members then (
  if x0.Source = x1.Source then (
  if x0.At = x1.At then (
  if x0.Total = x1.Total then (
  if x0.Data = x1.Data then (
  if x0.Hop = x1.Hop then (
  if x0.Seq = x1.Seq then (
  Option.bind (hocketref1_SameInts.f K x0.Have x1.Have) fun t_20 =>
  if t_20 = true then (
  Option.bind (hocketref1_SameInts.f K x0.Need x1.Need) fun t_25 =>
  if t_25 = true then (
  if x0.Index = x1.Index then (
  Option.bind (hocketref4_SameEntry.f x0.Entry x1.Entry) fun t_31 =>
  some t_31)
  else (
  some false))
  else (
  some false))
  else (
  some false))
  else (
  some false))
  else (
  some false))
  else (
  some false))
  else (
  some false))
  else (
  some false))
  else (
  some false))
  else (
  some false))
  else (
  some false))
  else (
  some false))
  else (
  some false))
  else (
  some false))
  else (
  some false))
  else (
  some false))
  else (
  some false)

def hocketref11_within.J1 (K : Nat) (x0 : List Int) (x1 : Int) : Option (Bool) :=
  some (decide ((x0.length : Int) ≤ x1))
def hocketref11_within.J2 (K : Nat) (again_7 : Int → Option (Bool)) (x_6 : Int) (x_14 : Bool) : Option (Bool) :=
  if x_14 = true then (
  some false)
  else (
  again_7 (w64 (x_6 + 1)))
def hocketref11_within.B1 (K : Nat) (x0 : List Int) (ex_7 : Unit → Option (Bool)) (again_7 : Int → Option (Bool)) (x_6 : Int) : Option (Bool) :=
  if x_6 < (x0.length : Int) then (
  Option.bind (ix x0 x_6) fun t_18 =>
  if t_18 < 0 then (
  hocketref11_within.J2 K again_7 x_6 true)
  else (
  Option.bind (ix x0 x_6) fun t_24 =>
  hocketref11_within.J2 K again_7 x_6 (decide (t_24 > 1099511627776))))
  else (
  ex_7 ())
def hocketref11_within.L1 (K : Nat) (x0 : List Int) (ex_7 : Unit → Option (Bool)) : Nat → Int → Option (Bool) :=
  iter fun again v => hocketref11_within.B1 K x0 ex_7 again v
def hocketref11_within.f (K : Nat) (x0 : List Int) (x1 : Int) : Option (Bool) :=
  hocketref11_within.L1 K x0 (fun v => hocketref11_within.J1 K x0 x1) K 0

def hocketref11_entry.f (x0 : api_Entry) : Option (Bool) :=
  if x0.Sess ≥ 0 then (
  if x0.Sess ≤ 1073741824 then (
  if x0.Seq ≥ 0 then (
  if x0.Seq ≤ 1073741824 then (
  if x0.Cmd.Kind ≥ 0 then (
  if x0.Cmd.Kind ≤ 1073741824 then (
  if x0.Cmd.Who ≥ 0 then (
  if x0.Cmd.Who ≤ 1073741824 then (
  if (x0.Cmd.Key.length : Int) ≤ 32 then (
  if (x0.Cmd.Val.length : Int) ≤ 32 then (
  some (decide ((x0.Cmd.Old.length : Int) ≤ 32)))
  else (
  some false))
  else (
  some false))
  else (
  some false))
  else (
  some false))
  else (
  some false))
  else (
  some false))
  else (
  some false))
  else (
  some false))
  else (
  some false))
  else (
  some false)

def hocketref11_Ok.J2 (K : Nat) (x0 : api_Msg) (x_13 : Bool) : Option (Bool) :=
  if x_13 = true then (
  some true)
  else (
  if x0.Kind = 2 then (
  Option.bind (hocketref11_within.f K ([x0.Inst, x0.Len] : List Int) 2) fun t_24 =>
  some t_24)
  else (
  if x0.Kind = 3 then (
  if x0.Members ≥ 0 then (
  if x0.Members ≤ 127 then (
  if x0.Source ≥ 0 then (
  if x0.Source ≤ 6 then (
  Option.bind (hocketref11_within.f K ([x0.Len] : List Int) 1) fun t_40 =>
  some t_40)
  else (
  some false))
  else (
  some false))
  else (
  some false))
  else (
  some false))
  else (
  if x0.Kind = 4 then (
  Option.bind (hocketref11_within.f K ([x0.At] : List Int) 1) fun t_51 =>
  some t_51)
  else (
  if x0.Kind = 5 then (
  Option.bind (hocketref11_within.f K ([x0.At, x0.Total] : List Int) 2) fun t_63 =>
  if t_63 = true then (
  some (decide ((x0.Data.length : Int) ≤ 64)))
  else (
  some false))
  else (
  if x0.Kind = 7 then (
  Option.bind (hocketref11_within.f K ([x0.Hop, x0.Seq] : List Int) 2) fun t_76 =>
  if t_76 = true then (
  Option.bind (hocketref11_within.f K x0.Have 7) fun t_81 =>
  if t_81 = true then (
  Option.bind (hocketref11_within.f K x0.Need 8) fun t_86 =>
  some t_86)
  else (
  some false))
  else (
  some false))
  else (
  if x0.Kind = 8 then (
  Option.bind (hocketref11_within.f K ([x0.Index] : List Int) 1) fun t_98 =>
  if t_98 = true then (
  Option.bind (hocketref11_entry.f x0.Entry) fun t_103 =>
  some t_103)
  else (
  some false))
  else (
  some false)))))))
def hocketref11_Ok.J1 (K : Nat) (x0 : api_Msg) (x_6 : Bool) : Option (Bool) :=
  if x_6 = true then (
  some false)
  else (
  if x0.Kind = 1 then (
  hocketref11_Ok.J2 K x0 (x0.Kind == 1))
  else (
  hocketref11_Ok.J2 K x0 (x0.Kind == 6)))
def hocketref11_Ok.f (K : Nat) (x0 : api_Msg) : Option (Bool) :=
  if x0.From < 0 then (
  hocketref11_Ok.J1 K x0 true)
  else (
  if x0.From > 6 then (
  hocketref11_Ok.J1 K x0 true)
  else (
  if x0.To < 0 then (
  hocketref11_Ok.J1 K x0 true)
  else (
  if x0.To > 6 then (
  hocketref11_Ok.J1 K x0 true)
  else (
  if x0.View < 0 then (
  hocketref11_Ok.J1 K x0 true)
  else (
  hocketref11_Ok.J1 K x0 (decide (x0.View > 1099511627776)))))))

def hocketref1_Next.J1 (K : Nat) (x_3 : UInt32) : Option (UInt32) :=
  some x_3
def hocketref1_Next.B1 (K : Nat) (ex_9 : UInt32 → Option (UInt32)) (again_9 : UInt32 × Int → Option (UInt32)) (x_7 : UInt32) (x_8 : Int) : Option (UInt32) :=
  if x_8 < 8 then (
  if ((x_7 &&& (1 : UInt32)).toNat : Int) = ((1 : UInt32).toNat : Int) then (
  again_9 ((toU32 (shr .u32 (x_7.toNat : Int) 1)) ^^^ (3988292384 : UInt32), w64 (x_8 + 1)))
  else (
  again_9 (toU32 (shr .u32 (x_7.toNat : Int) 1), w64 (x_8 + 1))))
  else (
  ex_9 x_7)
def hocketref1_Next.L1 (K : Nat) (ex_9 : UInt32 → Option (UInt32)) : Nat → UInt32 × Int → Option (UInt32) :=
  iter fun again v => hocketref1_Next.B1 K ex_9 again v.1 v.2
def hocketref1_Next.f (K : Nat) (x0 : UInt32) (x1 : UInt8) : Option (UInt32) :=
  hocketref1_Next.L1 K (fun v => hocketref1_Next.J1 K v) K (x0 ^^^ (toU32 (x1.toNat : Int)), 0)

def hocketref1_Sum.J1 (K : Nat) (x_3 : UInt32) : Option (UInt32) :=
  some (x_3 ^^^ (4294967295 : UInt32))
def hocketref1_Sum.B1 (K : Nat) (x0 : List UInt8) (ex_9 : UInt32 → Option (UInt32)) (again_9 : UInt32 × Int → Option (UInt32)) (x_7 : UInt32) (x_8 : Int) : Option (UInt32) :=
  if x_8 < (x0.length : Int) then (
  Option.bind (ix x0 x_8) fun t_13 =>
  Option.bind (hocketref1_Next.f K x_7 t_13) fun t_18 =>
  again_9 (t_18, w64 (x_8 + 1)))
  else (
  ex_9 x_7)
def hocketref1_Sum.L1 (K : Nat) (x0 : List UInt8) (ex_9 : UInt32 → Option (UInt32)) : Nat → UInt32 × Int → Option (UInt32) :=
  iter fun again v => hocketref1_Sum.B1 K x0 ex_9 again v.1 v.2
def hocketref1_Sum.f (K : Nat) (x0 : List UInt8) : Option (UInt32) :=
  hocketref1_Sum.L1 K x0 (fun v => hocketref1_Sum.J1 K v) K ((4294967295 : UInt32), 0)

def hocketref1_Four.f (K : Nat) (x0 : List UInt8) : Option ((List UInt8)) :=
  Option.bind (hocketref1_Sum.f K x0) fun t_1 =>
  Option.bind (app 140737488355328 ([toU8 (t_1.toNat : Int), toU8 ((toU32 (shr .u32 (t_1.toNat : Int) 8)).toNat : Int), toU8 ((toU32 (shr .u32 (t_1.toNat : Int) 16)).toNat : Int), toU8 ((toU32 (shr .u32 (t_1.toNat : Int) 24)).toNat : Int)] : List UInt8) x0) fun t_11 =>
  some t_11

def hocketref1_Num.J1 (K : Nat) (x_15 : Int) (x_16 : List UInt8) : Option ((List UInt8)) :=
  Option.bind (app 140737488355328 x_16 ([toU8 x_15] : List UInt8)) fun t_29 =>
  some t_29
def hocketref1_Num.B1 (K : Nat) (ex_42 : Int × (List UInt8) → Option ((List UInt8))) (again_42 : Int × (List UInt8) → Option ((List UInt8))) (x_36 : Int) (x_37 : List UInt8) : Option ((List UInt8)) :=
  if x_36 > 127 then (
  Option.bind (app 140737488355328 x_37 ([toU8 (bor .i64 (band .i64 x_36 127) 128)] : List UInt8)) fun t_52 =>
  again_42 (shr .i64 x_36 7, t_52))
  else (
  ex_42 (x_36, x_37))
def hocketref1_Num.L1 (K : Nat) (ex_42 : Int × (List UInt8) → Option ((List UInt8))) : Nat → Int × (List UInt8) → Option ((List UInt8)) :=
  iter fun again v => hocketref1_Num.B1 K ex_42 again v.1 v.2
def hocketref1_Num.f (K : Nat) (x0 : List UInt8) (x1 : Int) : Option ((List UInt8)) :=
  Option.bind (app 140737488355328 ([] : List UInt8) x0) fun t_7 =>
  hocketref1_Num.L1 K (fun v => hocketref1_Num.J1 K v.1 v.2) K (mn (mx x1 0) 4611686018427387904, t_7)

def hocketref11_nums.J1 (K : Nat) (x_3 : List UInt8) : Option ((List UInt8)) :=
  some x_3
def hocketref11_nums.B1 (K : Nat) (x1 : List Int) (ex_13 : (List UInt8) → Option ((List UInt8))) (again_13 : (List UInt8) × Int → Option ((List UInt8))) (x_9 : List UInt8) (x_12 : Int) : Option ((List UInt8)) :=
  if x_12 < (x1.length : Int) then (
  Option.bind (ix x1 x_12) fun t_17 =>
  Option.bind (hocketref1_Num.f K x_9 t_17) fun t_22 =>
  again_13 (t_22, w64 (x_12 + 1)))
  else (
  ex_13 x_9)
def hocketref11_nums.L1 (K : Nat) (x1 : List Int) (ex_13 : (List UInt8) → Option ((List UInt8))) : Nat → (List UInt8) × Int → Option ((List UInt8)) :=
  iter fun again v => hocketref11_nums.B1 K x1 ex_13 again v.1 v.2
def hocketref11_nums.f (K : Nat) (x0 : List UInt8) (x1 : List Int) : Option ((List UInt8)) :=
  hocketref11_nums.L1 K x1 (fun v => hocketref11_nums.J1 K v) K (x0, 0)

def hocketref1_Bytes.f (K : Nat) (x0 : List UInt8) (x1 : List UInt8) : Option ((List UInt8)) :=
  Option.bind (hocketref1_Num.f K x0 (x1.length : Int)) fun t_1 =>
  Option.bind (app 140737488355328 t_1 x1) fun t_9 =>
  some t_9

def hocketref4_PutEntry.f (K : Nat) (x0 : List UInt8) (x1 : api_Entry) : Option ((List UInt8)) :=
  Option.bind (hocketref1_Num.f K x0 x1.Sess) fun t_5 =>
  Option.bind (hocketref1_Num.f K t_5 x1.Seq) fun t_13 =>
  Option.bind (hocketref1_Num.f K t_13 x1.Cmd.Kind) fun t_21 =>
  Option.bind (hocketref1_Num.f K t_21 x1.Cmd.Who) fun t_29 =>
  Option.bind (hocketref1_Bytes.f K t_29 x1.Cmd.Key) fun t_39 =>
  Option.bind (hocketref1_Bytes.f K t_39 x1.Cmd.Val) fun t_47 =>
  Option.bind (hocketref1_Bytes.f K t_47 x1.Cmd.Old) fun t_55 =>
  some t_55

def hocketref11_Encode.J1 (K : Nat) (t_16 : (List UInt8)) (x0 : api_Msg) (x_26 : Int) : Option ((List UInt8)) :=
  Option.bind (hocketref11_nums.f K t_16 ([x0.Inst, x0.Len, x_26] : List Int)) fun t_36 =>
  some t_36
def hocketref11_Encode.f (K : Nat) (x0 : api_Msg) : Option ((List UInt8)) :=
  Option.bind (hocketref11_Ok.f K x0) fun t_4 =>
  if t_4 = true then (
  Option.bind (hocketref11_nums.f K ([] : List UInt8) ([x0.Kind, x0.From, x0.To, x0.View] : List Int)) fun t_16 =>
  if x0.Kind = 2 then (
  if x0.Has = true then (
  hocketref11_Encode.J1 K t_16 x0 1)
  else (
  hocketref11_Encode.J1 K t_16 x0 0))
  else (
  if x0.Kind = 3 then (
  Option.bind (hocketref11_nums.f K t_16 ([x0.Members, x0.Source, x0.Len] : List Int)) fun t_51 =>
  some t_51)
  else (
  if x0.Kind = 4 then (
  Option.bind (hocketref11_nums.f K t_16 ([x0.At] : List Int)) fun t_65 =>
  some t_65)
  else (
  if x0.Kind = 5 then (
  Option.bind (hocketref11_nums.f K t_16 ([x0.At, x0.Total] : List Int)) fun t_81 =>
  Option.bind (hocketref1_Bytes.f K t_81 x0.Data) fun t_87 =>
  some t_87)
  else (
  if x0.Kind = 7 then (
  Option.bind (hocketref11_nums.f K t_16 ([x0.Hop, x0.Seq, (x0.Have.length : Int)] : List Int)) fun t_106 =>
  Option.bind (hocketref11_nums.f K t_106 x0.Have) fun t_112 =>
  Option.bind (hocketref11_nums.f K t_112 ([(x0.Need.length : Int)] : List Int)) fun t_128 =>
  Option.bind (hocketref11_nums.f K t_128 x0.Need) fun t_135 =>
  some t_135)
  else (
  if x0.Kind = 8 then (
  Option.bind (hocketref11_nums.f K t_16 ([x0.Index] : List Int)) fun t_152 =>
  Option.bind (hocketref4_PutEntry.f K t_152 x0.Entry) fun t_158 =>
  some t_158)
  else (
  some t_16)))))))
  else (
  some ([] : List UInt8))

def hocketref11_Wrap.f (K : Nat) (x0 : api_Msg) : Option ((List UInt8)) :=
  Option.bind (hocketref11_Ok.f K x0) fun t_4 =>
  if t_4 = true then (
  Option.bind (hocketref11_Encode.f K x0) fun t_9 =>
  Option.bind (hocketref1_Four.f K t_9) fun t_16 =>
  some t_16)
  else (
  some ([] : List UInt8))

def hocketref1_Unfour.J1 (K : Nat) (x0 : List UInt8) (x_14 : Bool) : Option ((List UInt8) × Bool) :=
  if x_14 = true then (
  some (([] : List UInt8), false))
  else (
  Option.bind (cut x0 4 (x0.length : Int)) fun t_25 =>
  Option.bind (app 140737488355328 ([] : List UInt8) t_25) fun t_28 =>
  some (t_28, true))
def hocketref1_Unfour.f (K : Nat) (x0 : List UInt8) : Option ((List UInt8) × Bool) :=
  if (x0.length : Int) < 4 then (
  some (([] : List UInt8), false))
  else (
  Option.bind (cut x0 4 (x0.length : Int)) fun t_4 =>
  Option.bind (hocketref1_Sum.f K t_4) fun t_7 =>
  Option.bind (ix x0 0) fun t_34 =>
  if (t_34.toNat : Int) = ((toU8 (t_7.toNat : Int)).toNat : Int) then (
  Option.bind (ix x0 1) fun t_40 =>
  if (t_40.toNat : Int) = ((toU8 ((toU32 (shr .u32 (t_7.toNat : Int) 8)).toNat : Int)).toNat : Int) then (
  Option.bind (ix x0 2) fun t_46 =>
  if (t_46.toNat : Int) = ((toU8 ((toU32 (shr .u32 (t_7.toNat : Int) 16)).toNat : Int)).toNat : Int) then (
  Option.bind (ix x0 3) fun t_52 =>
  hocketref1_Unfour.J1 K x0 ((t_52.toNat : Int) != ((toU8 ((toU32 (shr .u32 (t_7.toNat : Int) 24)).toNat : Int)).toNat : Int)))
  else (
  hocketref1_Unfour.J1 K x0 true))
  else (
  hocketref1_Unfour.J1 K x0 true))
  else (
  hocketref1_Unfour.J1 K x0 true))

def hocketref1_Reader_Num.J1 (K : Nat) (x0_B : List UInt8) (x_3 : Bool) : Option (Int × (List UInt8) × Bool) :=
  some (0, x0_B, x_3)
def hocketref1_Reader_Num.J3 (K : Nat) (ex_9 : Bool → Option (Int × (List UInt8) × Bool)) (x0_B : List UInt8) (x_8 : Int) (x_7 : Int) (t_21 : UInt8) (x0_Bad : Bool) (x_30 : Bool) : Option (Int × (List UInt8) × Bool) :=
  if x_30 = true then (
  ex_9 true)
  else (
  Option.bind (cut x0_B (w64 (x_8 + 1)) (x0_B.length : Int)) fun t_35 =>
  some (w64 (bor .u64 x_7 (shl .u64 (wu64 ((t_21 &&& (127 : UInt8)).toNat : Int)) (wu64 (w64 (7 * x_8))))), t_35, x0_Bad))
def hocketref1_Reader_Num.J2 (K : Nat) (ex_9 : Bool → Option (Int × (List UInt8) × Bool)) (x0_B : List UInt8) (x_8 : Int) (x_7 : Int) (x0_Bad : Bool) (x1 : Int) (again_9 : Int × Int → Option (Int × (List UInt8) × Bool)) (x_16 : Bool) : Option (Int × (List UInt8) × Bool) :=
  if x_16 = true then (
  ex_9 true)
  else (
  Option.bind (ix x0_B x_8) fun t_21 =>
  if (t_21.toNat : Int) < ((128 : UInt8).toNat : Int) then (
  if (t_21.toNat : Int) = ((0 : UInt8).toNat : Int) then (
  if (w64 (x_8 + 1)) > 1 then (
  hocketref1_Reader_Num.J3 K ex_9 x0_B x_8 x_7 t_21 x0_Bad true)
  else (
  hocketref1_Reader_Num.J3 K ex_9 x0_B x_8 x_7 t_21 x0_Bad (decide ((bor .u64 x_7 (shl .u64 (wu64 ((t_21 &&& (127 : UInt8)).toNat : Int)) (wu64 (w64 (7 * x_8))))) > (wu64 (mn (mx x1 0) 4611686018427387904))))))
  else (
  hocketref1_Reader_Num.J3 K ex_9 x0_B x_8 x_7 t_21 x0_Bad (decide ((bor .u64 x_7 (shl .u64 (wu64 ((t_21 &&& (127 : UInt8)).toNat : Int)) (wu64 (w64 (7 * x_8))))) > (wu64 (mn (mx x1 0) 4611686018427387904))))))
  else (
  again_9 (bor .u64 x_7 (shl .u64 (wu64 ((t_21 &&& (127 : UInt8)).toNat : Int)) (wu64 (w64 (7 * x_8)))), w64 (x_8 + 1))))
def hocketref1_Reader_Num.B1 (K : Nat) (x0_Bad : Bool) (x0_B : List UInt8) (x1 : Int) (ex_9 : Bool → Option (Int × (List UInt8) × Bool)) (again_9 : Int × Int → Option (Int × (List UInt8) × Bool)) (x_7 : Int) (x_8 : Int) : Option (Int × (List UInt8) × Bool) :=
  if x0_Bad = true then (
  ex_9 x0_Bad)
  else (
  if x_8 ≥ (x0_B.length : Int) then (
  hocketref1_Reader_Num.J2 K ex_9 x0_B x_8 x_7 x0_Bad x1 again_9 true)
  else (
  hocketref1_Reader_Num.J2 K ex_9 x0_B x_8 x_7 x0_Bad x1 again_9 (decide (x_8 > 8))))
def hocketref1_Reader_Num.L1 (K : Nat) (x0_Bad : Bool) (x0_B : List UInt8) (x1 : Int) (ex_9 : Bool → Option (Int × (List UInt8) × Bool)) : Nat → Int × Int → Option (Int × (List UInt8) × Bool) :=
  iter fun again v => hocketref1_Reader_Num.B1 K x0_Bad x0_B x1 ex_9 again v.1 v.2
def hocketref1_Reader_Num.f (K : Nat) (x0_B : List UInt8) (x0_Bad : Bool) (x1 : Int) : Option (Int × (List UInt8) × Bool) :=
  hocketref1_Reader_Num.L1 K x0_Bad x0_B x1 (fun v => hocketref1_Reader_Num.J1 K x0_B v) K (0, 0)

def hocketref1_Reader_Bytes.J1 (K : Nat) (x0_B : List UInt8) (t_1 : Int × (List UInt8) × Bool) (x_11 : Bool) : Option ((List UInt8) × (List UInt8) × Bool) :=
  if x_11 = true then (
  some (([] : List UInt8), x0_B, true))
  else (
  Option.bind (cut t_1.2.1 0 t_1.1) fun t_24 =>
  Option.bind (app 140737488355328 ([] : List UInt8) t_24) fun t_27 =>
  Option.bind (cut t_1.2.1 t_1.1 (t_1.2.1.length : Int)) fun t_33 =>
  some (t_27, t_33, t_1.2.2))
def hocketref1_Reader_Bytes.f (K : Nat) (x0_B : List UInt8) (x0_Bad : Bool) (x1 : Int) : Option ((List UInt8) × (List UInt8) × Bool) :=
  Option.bind (hocketref1_Reader_Num.f K x0_B x0_Bad x1) fun t_1 =>
  if t_1.2.2 = true then (
  hocketref1_Reader_Bytes.J1 K x0_B t_1 true)
  else (
  hocketref1_Reader_Bytes.J1 K x0_B t_1 (decide (t_1.1 > (t_1.2.1.length : Int))))

def hocketref11_row.J1 (K : Nat) (x_10 : List Int) (x_15 : List UInt8) (x_18 : Bool) : Option ((List Int) × (List UInt8) × Bool) :=
  some (x_10, x_15, x_18)
def hocketref11_row.B1 (K : Nat) (ex_32 : (List Int) × (List UInt8) × Bool → Option ((List Int) × (List UInt8) × Bool)) (again_32 : (List Int) × Int × (List UInt8) × Bool → Option ((List Int) × (List UInt8) × Bool)) (x_22 : List Int) (x_27 : Int) (x_28 : List UInt8) (x_31 : Bool) : Option ((List Int) × (List UInt8) × Bool) :=
  if x_27 > 0 then (
  Option.bind (hocketref1_Reader_Num.f K x_28 x_31 1099511627776) fun t_37 =>
  Option.bind (app 17592186044416 x_22 ([t_37.1] : List Int)) fun t_50 =>
  again_32 (t_50, w64 (x_27 - 1), t_37.2.1, t_37.2.2))
  else (
  ex_32 (x_22, x_28, x_31))
def hocketref11_row.L1 (K : Nat) (ex_32 : (List Int) × (List UInt8) × Bool → Option ((List Int) × (List UInt8) × Bool)) : Nat → (List Int) × Int × (List UInt8) × Bool → Option ((List Int) × (List UInt8) × Bool) :=
  iter fun again v => hocketref11_row.B1 K ex_32 again v.1 v.2.1 v.2.2.1 v.2.2.2
def hocketref11_row.f (K : Nat) (x0_B : List UInt8) (x0_Bad : Bool) (x1 : Int) : Option ((List Int) × (List UInt8) × Bool) :=
  Option.bind (hocketref1_Reader_Num.f K x0_B x0_Bad x1) fun t_2 =>
  hocketref11_row.L1 K (fun v => hocketref11_row.J1 K v.1 v.2.1 v.2.2) K (([] : List Int), t_2.1, t_2.2.1, t_2.2.2)

def hocketref4_GetEntry.f (K : Nat) (x0_B : List UInt8) (x0_Bad : Bool) : Option (api_Entry × (List UInt8) × Bool) :=
  Option.bind (hocketref1_Reader_Num.f K x0_B x0_Bad 1073741824) fun t_3 =>
  Option.bind (hocketref1_Reader_Num.f K t_3.2.1 t_3.2.2 1073741824) fun t_10 =>
  Option.bind (hocketref1_Reader_Num.f K t_10.2.1 t_10.2.2 1073741824) fun t_20 =>
  Option.bind (hocketref1_Reader_Num.f K t_20.2.1 t_20.2.2 1073741824) fun t_27 =>
  Option.bind (hocketref1_Reader_Bytes.f K t_27.2.1 t_27.2.2 32) fun t_36 =>
  Option.bind (hocketref1_Reader_Bytes.f K t_36.2.1 t_36.2.2 32) fun t_47 =>
  Option.bind (hocketref1_Reader_Bytes.f K t_47.2.1 t_47.2.2 32) fun t_58 =>
  if t_58.2.2 = true then (
  some ((⟨0, 0, (⟨0, 0, ([] : List UInt8), ([] : List UInt8), ([] : List UInt8)⟩ : api_Cmd)⟩ : api_Entry), t_58.2.1, t_58.2.2))
  else (
  some ((⟨t_3.1, t_10.1, (⟨t_20.1, t_27.1, t_36.1, t_47.1, t_58.1⟩ : api_Cmd)⟩ : api_Entry), t_58.2.1, t_58.2.2))

def hocketref1_Reader_End.f (x0_B : List UInt8) (x0_Bad : Bool) : Option (Bool) :=
  if x0_Bad = true then (
  some false)
  else (
  some ((x0_B.length : Int) == 0))

def hocketref11_Decode.J2 (K : Nat) (x_41 : api_Msg) (x_71 : Bool) : Option (api_Msg × Bool) :=
  if x_71 = true then (
  some ((⟨0, 0, 0, 0, 0, 0, false, 0, 0, 0, 0, ([] : List UInt8), 0, 0, ([] : List Int), ([] : List Int), 0, (⟨0, 0, (⟨0, 0, ([] : List UInt8), ([] : List UInt8), ([] : List UInt8)⟩ : api_Cmd)⟩ : api_Entry)⟩ : api_Msg), false))
  else (
  some (x_41, true))
def hocketref11_Decode.J1 (K : Nat) (x_38 : hocketref1_Reader) (x_41 : api_Msg) : Option (api_Msg × Bool) :=
  if x_41.Kind = 0 then (
  hocketref11_Decode.J2 K x_41 true)
  else (
  Option.bind (hocketref1_Reader_End.f x_38.B x_38.Bad) fun t_84 =>
  hocketref11_Decode.J2 K x_41 (!t_84))
def hocketref11_Decode.f (K : Nat) (x0 : List UInt8) : Option (api_Msg × Bool) :=
  Option.bind (hocketref1_Reader_Num.f K x0 false 8) fun t_5 =>
  Option.bind (hocketref1_Reader_Num.f K t_5.2.1 t_5.2.2 6) fun t_12 =>
  Option.bind (hocketref1_Reader_Num.f K t_12.2.1 t_12.2.2 6) fun t_19 =>
  Option.bind (hocketref1_Reader_Num.f K t_19.2.1 t_19.2.2 1099511627776) fun t_26 =>
  if t_5.1 = 2 then (
  Option.bind (hocketref1_Reader_Num.f K t_26.2.1 t_26.2.2 1099511627776) fun t_89 =>
  Option.bind (hocketref1_Reader_Num.f K t_89.2.1 t_89.2.2 1099511627776) fun t_96 =>
  Option.bind (hocketref1_Reader_Num.f K t_96.2.1 t_96.2.2 1) fun t_105 =>
  hocketref11_Decode.J1 K (⟨t_105.2.1, t_105.2.2⟩ : hocketref1_Reader) (⟨t_5.1, t_12.1, t_19.1, t_26.1, t_89.1, t_96.1, (t_105.1 == 1), 0, 0, 0, 0, ([] : List UInt8), 0, 0, ([] : List Int), ([] : List Int), 0, (⟨0, 0, (⟨0, 0, ([] : List UInt8), ([] : List UInt8), ([] : List UInt8)⟩ : api_Cmd)⟩ : api_Entry)⟩ : api_Msg))
  else (
  if t_5.1 = 3 then (
  Option.bind (hocketref1_Reader_Num.f K t_26.2.1 t_26.2.2 127) fun t_120 =>
  Option.bind (hocketref1_Reader_Num.f K t_120.2.1 t_120.2.2 6) fun t_127 =>
  Option.bind (hocketref1_Reader_Num.f K t_127.2.1 t_127.2.2 1099511627776) fun t_134 =>
  hocketref11_Decode.J1 K (⟨t_134.2.1, t_134.2.2⟩ : hocketref1_Reader) (⟨t_5.1, t_12.1, t_19.1, t_26.1, 0, t_134.1, false, t_120.1, t_127.1, 0, 0, ([] : List UInt8), 0, 0, ([] : List Int), ([] : List Int), 0, (⟨0, 0, (⟨0, 0, ([] : List UInt8), ([] : List UInt8), ([] : List UInt8)⟩ : api_Cmd)⟩ : api_Entry)⟩ : api_Msg))
  else (
  if t_5.1 = 4 then (
  Option.bind (hocketref1_Reader_Num.f K t_26.2.1 t_26.2.2 1099511627776) fun t_151 =>
  hocketref11_Decode.J1 K (⟨t_151.2.1, t_151.2.2⟩ : hocketref1_Reader) (⟨t_5.1, t_12.1, t_19.1, t_26.1, 0, 0, false, 0, 0, t_151.1, 0, ([] : List UInt8), 0, 0, ([] : List Int), ([] : List Int), 0, (⟨0, 0, (⟨0, 0, ([] : List UInt8), ([] : List UInt8), ([] : List UInt8)⟩ : api_Cmd)⟩ : api_Entry)⟩ : api_Msg))
  else (
  if t_5.1 = 5 then (
  Option.bind (hocketref1_Reader_Num.f K t_26.2.1 t_26.2.2 1099511627776) fun t_166 =>
  Option.bind (hocketref1_Reader_Num.f K t_166.2.1 t_166.2.2 1099511627776) fun t_173 =>
  Option.bind (hocketref1_Reader_Bytes.f K t_173.2.1 t_173.2.2 64) fun t_182 =>
  hocketref11_Decode.J1 K (⟨t_182.2.1, t_182.2.2⟩ : hocketref1_Reader) (⟨t_5.1, t_12.1, t_19.1, t_26.1, 0, 0, false, 0, 0, t_166.1, t_173.1, t_182.1, 0, 0, ([] : List Int), ([] : List Int), 0, (⟨0, 0, (⟨0, 0, ([] : List UInt8), ([] : List UInt8), ([] : List UInt8)⟩ : api_Cmd)⟩ : api_Entry)⟩ : api_Msg))
  else (
  if t_5.1 = 7 then (
  Option.bind (hocketref1_Reader_Num.f K t_26.2.1 t_26.2.2 1099511627776) fun t_200 =>
  Option.bind (hocketref1_Reader_Num.f K t_200.2.1 t_200.2.2 1099511627776) fun t_207 =>
  Option.bind (hocketref11_row.f K t_207.2.1 t_207.2.2 7) fun t_216 =>
  Option.bind (hocketref11_row.f K t_216.2.1 t_216.2.2 8) fun t_228 =>
  hocketref11_Decode.J1 K (⟨t_228.2.1, t_228.2.2⟩ : hocketref1_Reader) (⟨t_5.1, t_12.1, t_19.1, t_26.1, 0, 0, false, 0, 0, 0, 0, ([] : List UInt8), t_200.1, t_207.1, t_216.1, t_228.1, 0, (⟨0, 0, (⟨0, 0, ([] : List UInt8), ([] : List UInt8), ([] : List UInt8)⟩ : api_Cmd)⟩ : api_Entry)⟩ : api_Msg))
  else (
  if t_5.1 = 8 then (
  Option.bind (hocketref1_Reader_Num.f K t_26.2.1 t_26.2.2 1099511627776) fun t_245 =>
  Option.bind (hocketref4_GetEntry.f K t_245.2.1 t_245.2.2) fun t_253 =>
  hocketref11_Decode.J1 K (⟨t_253.2.1, t_253.2.2⟩ : hocketref1_Reader) (⟨t_5.1, t_12.1, t_19.1, t_26.1, 0, 0, false, 0, 0, 0, 0, ([] : List UInt8), 0, 0, ([] : List Int), ([] : List Int), t_245.1, t_253.1⟩ : api_Msg))
  else (
  hocketref11_Decode.J1 K (⟨t_26.2.1, t_26.2.2⟩ : hocketref1_Reader) (⟨t_5.1, t_12.1, t_19.1, t_26.1, 0, 0, false, 0, 0, 0, 0, ([] : List UInt8), 0, 0, ([] : List Int), ([] : List Int), 0, (⟨0, 0, (⟨0, 0, ([] : List UInt8), ([] : List UInt8), ([] : List UInt8)⟩ : api_Cmd)⟩ : api_Entry)⟩ : api_Msg)))))))

def hocketref11_Open.f (K : Nat) (x0 : List UInt8) : Option (api_Msg × Bool) :=
  Option.bind (hocketref1_Unfour.f K x0) fun t_3 =>
  if t_3.2 = true then (
  Option.bind (hocketref11_Decode.f K t_3.1) fun t_13 =>
  some (t_13.1, t_13.2))
  else (
  some ((⟨0, 0, 0, 0, 0, 0, false, 0, 0, 0, 0, ([] : List UInt8), 0, 0, ([] : List Int), ([] : List Int), 0, (⟨0, 0, (⟨0, 0, ([] : List UInt8), ([] : List UInt8), ([] : List UInt8)⟩ : api_Cmd)⟩ : api_Entry)⟩ : api_Msg), false))

def mesg_write_1.J1 (K : Nat) (x_3 : List UInt8) : Option ((List UInt8)) :=
  some x_3
def mesg_write_1.B1 (K : Nat) (x0 : List Int) (ex_17 : (List UInt8) → Option ((List UInt8))) (again_17 : Int × (List UInt8) → Option ((List UInt8))) (x_11 : Int) (x_12 : List UInt8) : Option ((List UInt8)) :=
  if x_11 < (x0.length : Int) then (
  Option.bind (ix x0 x_11) fun t_21 =>
  Option.bind (pack_Num.f K x_12 t_21) fun t_26 =>
  again_17 (w64 (x_11 + 1), t_26))
  else (
  ex_17 x_12)
def mesg_write_1.L1 (K : Nat) (x0 : List Int) (ex_17 : (List UInt8) → Option ((List UInt8))) : Nat → Int × (List UInt8) → Option ((List UInt8)) :=
  iter fun again v => mesg_write_1.B1 K x0 ex_17 again v.1 v.2
def mesg_write_1.f (K : Nat) (x0 : List Int) (x1_ : List UInt8) : Option ((List UInt8)) :=
  mesg_write_1.L1 K x0 (fun v => mesg_write_1.J1 K v) K (0, x1_)

def mesg_write.f (K : Nat) (x0 : api_Msg) : Option ((List UInt8)) :=
  Option.bind (mesg_write_1.f K ([x0.Kind, x0.From, x0.To, x0.View] : List Int) ([] : List UInt8)) fun t_12 =>
  if x0.Kind = 2 then (
  Option.bind (mesg_flag.f x0.Has) fun t_23 =>
  Option.bind (mesg_write_1.f K ([x0.Inst, x0.Len, t_23] : List Int) t_12) fun t_33 =>
  some t_33)
  else (
  if x0.Kind = 3 then (
  Option.bind (mesg_write_1.f K ([x0.Members, x0.Source, x0.Len] : List Int) t_12) fun t_48 =>
  some t_48)
  else (
  if x0.Kind = 4 then (
  Option.bind (mesg_write_1.f K ([x0.At] : List Int) t_12) fun t_63 =>
  some t_63)
  else (
  if x0.Kind = 5 then (
  Option.bind (mesg_write_1.f K ([x0.At, x0.Total] : List Int) t_12) fun t_78 =>
  Option.bind (pack_Bytes.f K t_78 x0.Data) fun t_86 =>
  some t_86)
  else (
  if x0.Kind = 7 then (
  Option.bind (mesg_write_1.f K ([x0.Hop, x0.Seq] : List Int) t_12) fun t_102 =>
  Option.bind (mesg_row.f K t_102 x0.Have) fun t_111 =>
  Option.bind (mesg_row.f K t_111 x0.Need) fun t_119 =>
  some t_119)
  else (
  if x0.Kind = 8 then (
  Option.bind (mesg_write_1.f K ([x0.Index] : List Int) t_12) fun t_135 =>
  Option.bind (mach_PutEntry.f K t_135 x0.Entry) fun t_143 =>
  some t_143)
  else (
  some t_12))))))

def mesg_Encode.f (K : Nat) (x0 : api_Msg) : Option ((List UInt8)) :=
  Option.bind (mesg_beyond.f x0) fun t_4 =>
  if t_4 = true then (
  some ([] : List UInt8))
  else (
  Option.bind (mesg_write.f K x0) fun t_10 =>
  Option.bind (mesg_read.f K t_10) fun t_19 =>
  if t_19.2 = true then (
  Option.bind (mesg_alike.f K t_19.1 x0) fun t_52 =>
  if t_52 = true then (
  some t_10)
  else (
  some ([] : List UInt8)))
  else (
  some ([] : List UInt8)))

def fram_Wrap.f (K : Nat) (x0 : api_Msg) : Option ((List UInt8)) :=
  Option.bind (mesg_Encode.f K x0) fun t_3 =>
  if (t_3.length : Int) = 0 then (
  some ([] : List UInt8))
  else (
  Option.bind (fram_Sealed.f K t_3) fun t_14 =>
  some t_14)

def nets_Net_Send.J1 (K : Nat) (x0_n : Int) (x0_mask : Int) (x0_l : List nets_frame) (x1 : api_Msg) (t_3 : (List UInt8)) (x_14 : Bool) : Option (Bool × Int × Int × (List nets_frame)) :=
  if x_14 = true then (
  some (false, x0_n, x0_mask, x0_l))
  else (
  Option.bind (app 2932031007402 x0_l ([(⟨(⟨x1.From, x1.To, t_3⟩ : api_Flight), false⟩ : nets_frame)] : List nets_frame)) fun t_27 =>
  some (true, x0_n, x0_mask, t_27))
def nets_Net_Send.f (K : Nat) (x0_n : Int) (x0_mask : Int) (x0_l : List nets_frame) (x1 : api_Msg) : Option (Bool × Int × Int × (List nets_frame)) :=
  Option.bind (fram_Wrap.f K x1) fun t_3 =>
  if (t_3.length : Int) = 0 then (
  nets_Net_Send.J1 K x0_n x0_mask x0_l x1 t_3 true)
  else (
  if x1.From ≥ x0_n then (
  nets_Net_Send.J1 K x0_n x0_mask x0_l x1 t_3 true)
  else (
  if x1.To ≥ x0_n then (
  nets_Net_Send.J1 K x0_n x0_mask x0_l x1 t_3 true)
  else (
  Option.bind (nets_Net_room.f x0_n x0_mask x0_l) fun t_52 =>
  nets_Net_Send.J1 K x0_n x0_mask x0_l x1 t_3 (!t_52))))

def hocketlaw23_awake.f (K : Nat) : Option (Unit) :=
  Option.bind (nets_New.f 3) fun t_1 =>
  Option.bind (nets_Net_Send.f K t_1.1 t_1.2.1 t_1.2.2 (⟨1, 0, 1, 8, 0, 0, false, 0, 0, 0, 0, ([] : List UInt8), 0, 0, ([] : List Int), ([] : List Int), 0, (⟨0, 0, (⟨0, 0, ([] : List UInt8), ([] : List UInt8), ([] : List UInt8)⟩ : api_Cmd)⟩ : api_Entry)⟩ : api_Msg)) fun t_11 =>
  Option.bind (nets_Net_Send.f K t_11.2.1 t_11.2.2.1 t_11.2.2.2 (⟨1, 0, 3, 8, 0, 0, false, 0, 0, 0, 0, ([] : List UInt8), 0, 0, ([] : List Int), ([] : List Int), 0, (⟨0, 0, (⟨0, 0, ([] : List UInt8), ([] : List UInt8), ([] : List UInt8)⟩ : api_Cmd)⟩ : api_Entry)⟩ : api_Msg)) fun t_19 =>
  Option.bind (nets_Net_Twice.f t_19.2.1 t_19.2.2.1 t_19.2.2.2 0) fun t_27 =>
  Option.bind (nets_Net_Flip.f t_27.2.1 t_27.2.2.1 t_27.2.2.2 0 3) fun t_35 =>
  Option.bind (nets_Net_Take.f K t_35.2.1 t_35.2.2.1 t_35.2.2.2 0) fun t_43 =>
  Option.bind (nets_Net_Take.f K t_43.2.2.1 t_43.2.2.2.1 t_43.2.2.2.2 0) fun t_78 =>
  Option.bind (nets_Net_Split.f t_78.2.2.1 t_78.2.2.2.1 t_78.2.2.2.2 1) fun t_113 =>
  if t_11.1 = true then (
  if t_19.1 = true then (
  none)
  else (
  if t_27.1 = true then (
  if t_35.1 = true then (
  if t_43.2.1 = true then (
  none)
  else (
  if t_78.2.1 = true then (
  if t_78.1.View = 8 then (
  Option.bind (nets_Net_Count.f t_113.1 t_113.2.1 t_113.2.2) fun t_129 =>
  if t_129 = 0 then (
  Option.bind (nets_Net_Apart.f t_113.1 t_113.2.1 t_113.2.2 0 1) fun t_134 =>
  if t_134 = true then (
  Option.bind (nets_Net_Apart.f t_113.1 t_113.2.1 t_113.2.2 1 2) fun t_139 =>
  if t_139 = true then (
  none)
  else (
  some ()))
  else (
  none))
  else (
  none))
  else (
  none))
  else (
  none)))
  else (
  none))
  else (
  none)))
  else (
  none)

def hocketlaw23_NetsPlays.J1 (K : Nat) : Option (Unit) :=
  Option.bind (hocketlaw23_awake.f K) fun t_15 =>
  some ()
def hocketlaw23_NetsPlays.J7 (K : Nat) (again_32 : (List hocketlaw23_flight) × Int × Int × nets_Net → Option (Unit)) (x_60 : List hocketlaw23_flight) (x_65 : Int) (x_26 : Int) (x_66 : nets_Net) (x_112 : Bool) : Option (Unit) :=
  if x_112 = true then (
  none)
  else (
  again_32 (x_60, x_65, w64 (x_26 + 1), x_66))
def hocketlaw23_NetsPlays.J6 (K : Nat) (t_94 : api_Flight × Bool) (x_60 : List hocketlaw23_flight) (t_43 : Int) (again_32 : (List hocketlaw23_flight) × Int × Int × nets_Net → Option (Unit)) (x_65 : Int) (x_26 : Int) (x_66 : nets_Net) (x_107 : Bool) : Option (Unit) :=
  if t_94.2 = x_107 then (
  if x_107 = true then (
  Option.bind (ix x_60 (w64 ((band .i64 (shr .i64 t_43 4) 15) - 1))) fun t_119 =>
  if t_94.1.From = t_119.from_ then (
  Option.bind (ix x_60 (w64 ((band .i64 (shr .i64 t_43 4) 15) - 1))) fun t_127 =>
  if t_94.1.To = t_127.to then (
  Option.bind (ix x_60 (w64 ((band .i64 (shr .i64 t_43 4) 15) - 1))) fun t_135 =>
  hocketlaw23_NetsPlays.J7 K again_32 x_60 x_65 x_26 x_66 (!(t_94.1.Bytes == t_135.b)))
  else (
  hocketlaw23_NetsPlays.J7 K again_32 x_60 x_65 x_26 x_66 true))
  else (
  hocketlaw23_NetsPlays.J7 K again_32 x_60 x_65 x_26 x_66 true))
  else (
  hocketlaw23_NetsPlays.J7 K again_32 x_60 x_65 x_26 x_66 false))
  else (
  hocketlaw23_NetsPlays.J7 K again_32 x_60 x_65 x_26 x_66 true)
def hocketlaw23_NetsPlays.J5 (K : Nat) (x_66 : nets_Net) (t_43 : Int) (x_60 : List hocketlaw23_flight) (again_32 : (List hocketlaw23_flight) × Int × Int × nets_Net → Option (Unit)) (x_65 : Int) (x_26 : Int) (x_90 : Bool) : Option (Unit) :=
  if x_90 = true then (
  none)
  else (
  Option.bind (nets_Net_At.f x_66.n x_66.mask x_66.l (w64 ((band .i64 (shr .i64 t_43 4) 15) - 1))) fun t_94 =>
  if (w64 ((band .i64 (shr .i64 t_43 4) 15) - 1)) ≥ 0 then (
  hocketlaw23_NetsPlays.J6 K t_94 x_60 t_43 again_32 x_65 x_26 x_66 (decide ((w64 ((band .i64 (shr .i64 t_43 4) 15) - 1)) < (x_60.length : Int))))
  else (
  hocketlaw23_NetsPlays.J6 K t_94 x_60 t_43 again_32 x_65 x_26 x_66 false))
def hocketlaw23_NetsPlays.J4 (K : Nat) (x1 : List Int) (x_26 : Int) (x0 : Int) (t_43 : Int) (again_32 : (List hocketlaw23_flight) × Int × Int × nets_Net → Option (Unit)) (x_60 : List hocketlaw23_flight) (x_65 : Int) (x_66 : nets_Net) : Option (Unit) :=
  Option.bind (ix x1 x_26) fun t_75 =>
  Option.bind (rem (band .i64 (shr .i64 t_75 12) 7) (mx (w64 ((band .i64 x0 7) + 0)) 1)) fun t_80 =>
  Option.bind (ix x1 x_26) fun t_81 =>
  Option.bind (rem (band .i64 (shr .i64 t_81 15) 7) (mx (w64 ((band .i64 x0 7) + 0)) 1)) fun t_86 =>
  Option.bind (nets_Net_Count.f x_66.n x_66.mask x_66.l) fun t_143 =>
  if t_143 = (x_60.length : Int) then (
  Option.bind (nets_Net_Apart.f x_66.n x_66.mask x_66.l t_80 t_86) fun t_148 =>
  if x_65 = 0 then (
  hocketlaw23_NetsPlays.J5 K x_66 t_43 x_60 again_32 x_65 x_26 (!(t_148 == false)))
  else (
  hocketlaw23_NetsPlays.J5 K x_66 t_43 x_60 again_32 x_65 x_26 (!(t_148 == ((band .i64 (shr .i64 x_65 (wu64 t_80)) 1) != (band .i64 (shr .i64 x_65 (wu64 t_86)) 1))))))
  else (
  hocketlaw23_NetsPlays.J5 K x_66 t_43 x_60 again_32 x_65 x_26 true)
def hocketlaw23_NetsPlays.J11 (K : Nat) (x_27 : nets_Net) (x_339 : api_Msg) (x_20 : List hocketlaw23_flight) (x1 : List Int) (x_26 : Int) (x0 : Int) (t_43 : Int) (again_32 : (List hocketlaw23_flight) × Int × Int × nets_Net → Option (Unit)) (x_25 : Int) (x_356 : Bool) : Option (Unit) :=
  Option.bind (nets_Net_Send.f K x_27.n x_27.mask x_27.l x_339) fun t_360 =>
  if t_360.1 = x_356 then (
  if x_356 = true then (
  Option.bind (hocketref11_Wrap.f K x_339) fun t_372 =>
  Option.bind (app 2932031007402 x_20 ([(⟨x_339.From, x_339.To, t_372, false⟩ : hocketlaw23_flight)] : List hocketlaw23_flight)) fun t_387 =>
  hocketlaw23_NetsPlays.J4 K x1 x_26 x0 t_43 again_32 t_387 x_25 (⟨t_360.2.1, t_360.2.2.1, t_360.2.2.2⟩ : nets_Net))
  else (
  hocketlaw23_NetsPlays.J4 K x1 x_26 x0 t_43 again_32 x_20 x_25 (⟨t_360.2.1, t_360.2.2.1, t_360.2.2.2⟩ : nets_Net)))
  else (
  none)
def hocketlaw23_NetsPlays.J10 (K : Nat) (x0 : Int) (x_27 : nets_Net) (x_20 : List hocketlaw23_flight) (x1 : List Int) (x_26 : Int) (t_43 : Int) (again_32 : (List hocketlaw23_flight) × Int × Int × nets_Net → Option (Unit)) (x_25 : Int) (x_339 : api_Msg) : Option (Unit) :=
  Option.bind (hocketref11_Ok.f K x_339) fun t_393 =>
  if t_393 = true then (
  if x_339.From < (mx (w64 ((band .i64 x0 7) + 0)) 1) then (
  hocketlaw23_NetsPlays.J11 K x_27 x_339 x_20 x1 x_26 x0 t_43 again_32 x_25 (decide (x_339.To < (mx (w64 ((band .i64 x0 7) + 0)) 1))))
  else (
  hocketlaw23_NetsPlays.J11 K x_27 x_339 x_20 x1 x_26 x0 t_43 again_32 x_25 false))
  else (
  hocketlaw23_NetsPlays.J11 K x_27 x_339 x_20 x1 x_26 x0 t_43 again_32 x_25 false)
def hocketlaw23_NetsPlays.J9 (K : Nat) (x2 : List api_Msg) (x_26 : Int) (x0 : Int) (x_27 : nets_Net) (x_20 : List hocketlaw23_flight) (x1 : List Int) (t_43 : Int) (again_32 : (List hocketlaw23_flight) × Int × Int × nets_Net → Option (Unit)) (x_25 : Int) (t_172 : api_Msg) (x_335 : Bool) : Option (Unit) :=
  if x_335 = true then (
  Option.bind (ix x2 x_26) fun t_400 =>
  hocketlaw23_NetsPlays.J10 K x0 x_27 x_20 x1 x_26 t_43 again_32 x_25 t_400)
  else (
  hocketlaw23_NetsPlays.J10 K x0 x_27 x_20 x1 x_26 t_43 again_32 x_25 t_172)
def hocketlaw23_NetsPlays.J13 (K : Nat) (t_451 : api_Msg × Bool × Int × Int × (List nets_frame)) (x1 : List Int) (x_26 : Int) (x0 : Int) (t_43 : Int) (again_32 : (List hocketlaw23_flight) × Int × Int × nets_Net → Option (Unit)) (x_25 : Int) (x_491 : List hocketlaw23_flight) (x_496 : Bool) (x_497 : api_Msg) : Option (Unit) :=
  if t_451.2.1 = x_496 then (
  Option.bind (hocketref11_Same.f K t_451.1 x_497) fun t_526 =>
  if t_526 = true then (
  hocketlaw23_NetsPlays.J4 K x1 x_26 x0 t_43 again_32 x_491 x_25 (⟨t_451.2.2.1, t_451.2.2.2.1, t_451.2.2.2.2⟩ : nets_Net))
  else (
  none))
  else (
  none)
def hocketlaw23_NetsPlays.J15 (K : Nat) (x_20 : List hocketlaw23_flight) (t_43 : Int) (t_451 : api_Msg × Bool × Int × Int × (List nets_frame)) (x1 : List Int) (x_26 : Int) (x0 : Int) (again_32 : (List hocketlaw23_flight) × Int × Int × nets_Net → Option (Unit)) (x_25 : Int) (x_539 : Bool) (x_540 : api_Msg) : Option (Unit) :=
  Option.bind (cut x_20 0 (w64 ((band .i64 (shr .i64 t_43 4) 15) - 1))) fun t_569 =>
  Option.bind (cut x_20 (w64 ((w64 ((band .i64 (shr .i64 t_43 4) 15) - 1)) + 1)) (x_20.length : Int)) fun t_572 =>
  Option.bind (app 2932031007402 ([] : List hocketlaw23_flight) t_569) fun t_581 =>
  Option.bind (app 2932031007402 t_581 t_572) fun t_587 =>
  hocketlaw23_NetsPlays.J13 K t_451 x1 x_26 x0 t_43 again_32 x_25 t_587 x_539 x_540
def hocketlaw23_NetsPlays.J14 (K : Nat) (x_20 : List hocketlaw23_flight) (t_43 : Int) (t_451 : api_Msg × Bool × Int × Int × (List nets_frame)) (x1 : List Int) (x_26 : Int) (x0 : Int) (again_32 : (List hocketlaw23_flight) × Int × Int × nets_Net → Option (Unit)) (x_25 : Int) (x_535 : Bool) : Option (Unit) :=
  if x_535 = true then (
  Option.bind (ix x_20 (w64 ((band .i64 (shr .i64 t_43 4) 15) - 1))) fun t_594 =>
  Option.bind (hocketref11_Open.f K t_594.b) fun t_601 =>
  hocketlaw23_NetsPlays.J15 K x_20 t_43 t_451 x1 x_26 x0 again_32 x_25 t_601.2 t_601.1)
  else (
  hocketlaw23_NetsPlays.J15 K x_20 t_43 t_451 x1 x_26 x0 again_32 x_25 false (⟨0, 0, 0, 0, 0, 0, false, 0, 0, 0, 0, ([] : List UInt8), 0, 0, ([] : List Int), ([] : List Int), 0, (⟨0, 0, (⟨0, 0, ([] : List UInt8), ([] : List UInt8), ([] : List UInt8)⟩ : api_Cmd)⟩ : api_Entry)⟩ : api_Msg))
def hocketlaw23_NetsPlays.J18 (K : Nat) (x_27 : nets_Net) (t_43 : Int) (t_740 : Int) (x_20 : List hocketlaw23_flight) (x1 : List Int) (x_26 : Int) (x0 : Int) (again_32 : (List hocketlaw23_flight) × Int × Int × nets_Net → Option (Unit)) (x_25 : Int) (x_747 : Bool) : Option (Unit) :=
  Option.bind (nets_Net_Flip.f x_27.n x_27.mask x_27.l (w64 ((band .i64 (shr .i64 t_43 4) 15) - 1)) (w64 ((band .i64 (shr .i64 t_740 8) 1023) - 10))) fun t_751 =>
  if t_751.1 = x_747 then (
  if x_747 = true then (
  Option.bind (ix x_20 (w64 ((band .i64 (shr .i64 t_43 4) 15) - 1))) fun t_768 =>
  Option.bind (app 140737488355328 ([] : List UInt8) t_768.b) fun t_775 =>
  Option.bind (rem (w64 ((band .i64 (shr .i64 t_740 8) 1023) - 10)) (w64 (8 * (t_775.length : Int)))) fun t_781 =>
  Option.bind (ix t_775 (w64 (Int.tdiv t_781 8))) fun t_782 =>
  Option.bind (ix t_775 (w64 (Int.tdiv t_781 8))) fun t_787 =>
  Option.bind (ix x_20 (w64 ((band .i64 (shr .i64 t_43 4) 15) - 1))) fun t_794 =>
  Option.bind (ix (x_20.set ((w64 ((band .i64 (shr .i64 t_43 4) 15) - 1))).toNat (⟨t_794.from_, t_794.to, (t_775.set ((w64 (Int.tdiv t_781 8))).toNat (t_782 ^^^ (toU8 (((1 : UInt8).toNat : Int) * 2 ^ (min (wu64 (band .i64 t_781 7) : Int).toNat 8))))), t_794.turned⟩ : hocketlaw23_flight)) (w64 ((band .i64 (shr .i64 t_43 4) 15) - 1))) fun t_804 =>
  hocketlaw23_NetsPlays.J4 K x1 x_26 x0 t_43 again_32 ((x_20.set ((w64 ((band .i64 (shr .i64 t_43 4) 15) - 1))).toNat (⟨t_794.from_, t_794.to, (t_775.set ((w64 (Int.tdiv t_781 8))).toNat (t_782 ^^^ (toU8 (((1 : UInt8).toNat : Int) * 2 ^ (min (wu64 (band .i64 t_781 7) : Int).toNat 8))))), t_794.turned⟩ : hocketlaw23_flight)).set ((w64 ((band .i64 (shr .i64 t_43 4) 15) - 1))).toNat (⟨t_804.from_, t_804.to, t_804.b, true⟩ : hocketlaw23_flight)) x_25 (⟨t_751.2.1, t_751.2.2.1, t_751.2.2.2⟩ : nets_Net))
  else (
  hocketlaw23_NetsPlays.J4 K x1 x_26 x0 t_43 again_32 x_20 x_25 (⟨t_751.2.1, t_751.2.2.1, t_751.2.2.2⟩ : nets_Net)))
  else (
  none)
def hocketlaw23_NetsPlays.J17 (K : Nat) (x1 : List Int) (x_26 : Int) (x_50 : Bool) (x_20 : List hocketlaw23_flight) (t_43 : Int) (x_27 : nets_Net) (x0 : Int) (again_32 : (List hocketlaw23_flight) × Int × Int × nets_Net → Option (Unit)) (x_25 : Int) (x_736 : Bool) : Option (Unit) :=
  if x_736 = true then (
  Option.bind (ix x1 x_26) fun t_740 =>
  if x_50 = true then (
  if (w64 ((band .i64 (shr .i64 t_740 8) 1023) - 10)) ≥ 0 then (
  Option.bind (ix x_20 (w64 ((band .i64 (shr .i64 t_43 4) 15) - 1))) fun t_815 =>
  hocketlaw23_NetsPlays.J18 K x_27 t_43 t_740 x_20 x1 x_26 x0 again_32 x_25 (!t_815.turned))
  else (
  hocketlaw23_NetsPlays.J18 K x_27 t_43 t_740 x_20 x1 x_26 x0 again_32 x_25 false))
  else (
  hocketlaw23_NetsPlays.J18 K x_27 t_43 t_740 x_20 x1 x_26 x0 again_32 x_25 false))
  else (
  Option.bind (ix x1 x_26) fun t_822 =>
  Option.bind (nets_Net_Split.f x_27.n x_27.mask x_27.l (band .i64 (shr .i64 t_822 4) 127)) fun t_827 =>
  hocketlaw23_NetsPlays.J4 K x1 x_26 x0 t_43 again_32 x_20 (band .i64 (shr .i64 t_822 4) 127) (⟨t_827.1, t_827.2.1, t_827.2.2⟩ : nets_Net))
def hocketlaw23_NetsPlays.J16 (K : Nat) (x_27 : nets_Net) (t_43 : Int) (x_50 : Bool) (x_20 : List hocketlaw23_flight) (x1 : List Int) (x_26 : Int) (x0 : Int) (again_32 : (List hocketlaw23_flight) × Int × Int × nets_Net → Option (Unit)) (x_25 : Int) (t_54 : Int) (x_699 : Bool) : Option (Unit) :=
  if x_699 = true then (
  Option.bind (nets_Net_Twice.f x_27.n x_27.mask x_27.l (w64 ((band .i64 (shr .i64 t_43 4) 15) - 1))) fun t_704 =>
  if t_704.1 = x_50 then (
  if x_50 = true then (
  Option.bind (ix x_20 (w64 ((band .i64 (shr .i64 t_43 4) 15) - 1))) fun t_715 =>
  Option.bind (app 2932031007402 x_20 ([t_715] : List hocketlaw23_flight)) fun t_728 =>
  hocketlaw23_NetsPlays.J4 K x1 x_26 x0 t_43 again_32 t_728 x_25 (⟨t_704.2.1, t_704.2.2.1, t_704.2.2.2⟩ : nets_Net))
  else (
  hocketlaw23_NetsPlays.J4 K x1 x_26 x0 t_43 again_32 x_20 x_25 (⟨t_704.2.1, t_704.2.2.1, t_704.2.2.2⟩ : nets_Net)))
  else (
  none))
  else (
  if (band .i64 t_54 15) = 12 then (
  hocketlaw23_NetsPlays.J17 K x1 x_26 x_50 x_20 t_43 x_27 x0 again_32 x_25 ((band .i64 t_54 15) == 12))
  else (
  hocketlaw23_NetsPlays.J17 K x1 x_26 x_50 x_20 t_43 x_27 x0 again_32 x_25 ((band .i64 t_54 15) == 13)))
def hocketlaw23_NetsPlays.J12 (K : Nat) (x_27 : nets_Net) (t_43 : Int) (x_50 : Bool) (x_20 : List hocketlaw23_flight) (x_25 : Int) (x1 : List Int) (x_26 : Int) (x0 : Int) (again_32 : (List hocketlaw23_flight) × Int × Int × nets_Net → Option (Unit)) (t_54 : Int) (x_447 : Bool) : Option (Unit) :=
  if x_447 = true then (
  Option.bind (nets_Net_Take.f K x_27.n x_27.mask x_27.l (w64 ((band .i64 (shr .i64 t_43 4) 15) - 1))) fun t_451 =>
  if x_50 = true then (
  Option.bind (ix x_20 (w64 ((band .i64 (shr .i64 t_43 4) 15) - 1))) fun t_637 =>
  Option.bind (ix x_20 (w64 ((band .i64 (shr .i64 t_43 4) 15) - 1))) fun t_644 =>
  if (band .i64 (shr .i64 x_25 (wu64 t_637.from_)) 1) = (band .i64 (shr .i64 x_25 (wu64 t_644.to)) 1) then (
  hocketlaw23_NetsPlays.J14 K x_20 t_43 t_451 x1 x_26 x0 again_32 x_25 true)
  else (
  hocketlaw23_NetsPlays.J14 K x_20 t_43 t_451 x1 x_26 x0 again_32 x_25 (x_25 == 0)))
  else (
  hocketlaw23_NetsPlays.J13 K t_451 x1 x_26 x0 t_43 again_32 x_25 x_20 false (⟨0, 0, 0, 0, 0, 0, false, 0, 0, 0, 0, ([] : List UInt8), 0, 0, ([] : List Int), ([] : List Int), 0, (⟨0, 0, (⟨0, 0, ([] : List UInt8), ([] : List UInt8), ([] : List UInt8)⟩ : api_Cmd)⟩ : api_Entry)⟩ : api_Msg)))
  else (
  if (band .i64 t_54 15) = 9 then (
  Option.bind (nets_Net_Drop.f x_27.n x_27.mask x_27.l (w64 ((band .i64 (shr .i64 t_43 4) 15) - 1))) fun t_660 =>
  if t_660.1 = x_50 then (
  if x_50 = true then (
  Option.bind (cut x_20 0 (w64 ((band .i64 (shr .i64 t_43 4) 15) - 1))) fun t_673 =>
  Option.bind (cut x_20 (w64 ((w64 ((band .i64 (shr .i64 t_43 4) 15) - 1)) + 1)) (x_20.length : Int)) fun t_676 =>
  Option.bind (app 2932031007402 ([] : List hocketlaw23_flight) t_673) fun t_685 =>
  Option.bind (app 2932031007402 t_685 t_676) fun t_691 =>
  hocketlaw23_NetsPlays.J4 K x1 x_26 x0 t_43 again_32 t_691 x_25 (⟨t_660.2.1, t_660.2.2.1, t_660.2.2.2⟩ : nets_Net))
  else (
  hocketlaw23_NetsPlays.J4 K x1 x_26 x0 t_43 again_32 x_20 x_25 (⟨t_660.2.1, t_660.2.2.1, t_660.2.2.2⟩ : nets_Net)))
  else (
  none))
  else (
  if (band .i64 t_54 15) = 10 then (
  hocketlaw23_NetsPlays.J16 K x_27 t_43 x_50 x_20 x1 x_26 x0 again_32 x_25 t_54 ((band .i64 t_54 15) == 10))
  else (
  hocketlaw23_NetsPlays.J16 K x_27 t_43 x_50 x_20 x1 x_26 x0 again_32 x_25 t_54 ((band .i64 t_54 15) == 11))))
def hocketlaw23_NetsPlays.J8 (K : Nat) (x1 : List Int) (x_26 : Int) (x2 : List api_Msg) (x0 : Int) (x_27 : nets_Net) (x_20 : List hocketlaw23_flight) (t_43 : Int) (again_32 : (List hocketlaw23_flight) × Int × Int × nets_Net → Option (Unit)) (x_25 : Int) (t_54 : Int) (x_50 : Bool) (x_155 : Bool) : Option (Unit) :=
  if x_155 = true then (
  Option.bind (ix x1 x_26) fun t_161 =>
  Option.bind (ix x1 x_26) fun t_166 =>
  Option.bind (hocketlaw11_Msg.f K (shr .i64 t_161 4) t_166) fun t_172 =>
  Option.bind (ix x1 x_26) fun t_421 =>
  if (band .i64 (shr .i64 t_421 28) 3) = 0 then (
  if x_26 < (x2.length : Int) then (
  Option.bind (ix x2 x_26) fun t_428 =>
  hocketlaw23_NetsPlays.J9 K x2 x_26 x0 x_27 x_20 x1 t_43 again_32 x_25 t_172 (decide ((t_428.Data.length : Int) < 100)))
  else (
  hocketlaw23_NetsPlays.J9 K x2 x_26 x0 x_27 x_20 x1 t_43 again_32 x_25 t_172 false))
  else (
  hocketlaw23_NetsPlays.J9 K x2 x_26 x0 x_27 x_20 x1 t_43 again_32 x_25 t_172 false))
  else (
  if (band .i64 t_54 15) = 6 then (
  hocketlaw23_NetsPlays.J12 K x_27 t_43 x_50 x_20 x_25 x1 x_26 x0 again_32 t_54 ((band .i64 t_54 15) == 6))
  else (
  if (band .i64 t_54 15) = 7 then (
  hocketlaw23_NetsPlays.J12 K x_27 t_43 x_50 x_20 x_25 x1 x_26 x0 again_32 t_54 ((band .i64 t_54 15) == 7))
  else (
  hocketlaw23_NetsPlays.J12 K x_27 t_43 x_50 x_20 x_25 x1 x_26 x0 again_32 t_54 ((band .i64 t_54 15) == 8))))
def hocketlaw23_NetsPlays.J3 (K : Nat) (x1 : List Int) (x_26 : Int) (x2 : List api_Msg) (x0 : Int) (x_27 : nets_Net) (x_20 : List hocketlaw23_flight) (t_43 : Int) (again_32 : (List hocketlaw23_flight) × Int × Int × nets_Net → Option (Unit)) (x_25 : Int) (x_50 : Bool) : Option (Unit) :=
  Option.bind (ix x1 x_26) fun t_54 =>
  if (band .i64 t_54 15) = 0 then (
  hocketlaw23_NetsPlays.J8 K x1 x_26 x2 x0 x_27 x_20 t_43 again_32 x_25 t_54 x_50 ((band .i64 t_54 15) == 0))
  else (
  if (band .i64 t_54 15) = 1 then (
  hocketlaw23_NetsPlays.J8 K x1 x_26 x2 x0 x_27 x_20 t_43 again_32 x_25 t_54 x_50 ((band .i64 t_54 15) == 1))
  else (
  if (band .i64 t_54 15) = 2 then (
  hocketlaw23_NetsPlays.J8 K x1 x_26 x2 x0 x_27 x_20 t_43 again_32 x_25 t_54 x_50 ((band .i64 t_54 15) == 2))
  else (
  if (band .i64 t_54 15) = 3 then (
  hocketlaw23_NetsPlays.J8 K x1 x_26 x2 x0 x_27 x_20 t_43 again_32 x_25 t_54 x_50 ((band .i64 t_54 15) == 3))
  else (
  if (band .i64 t_54 15) = 4 then (
  hocketlaw23_NetsPlays.J8 K x1 x_26 x2 x0 x_27 x_20 t_43 again_32 x_25 t_54 x_50 ((band .i64 t_54 15) == 4))
  else (
  hocketlaw23_NetsPlays.J8 K x1 x_26 x2 x0 x_27 x_20 t_43 again_32 x_25 t_54 x_50 ((band .i64 t_54 15) == 5))))))
def hocketlaw23_NetsPlays.J2 (K : Nat) (x1 : List Int) (x_26 : Int) (x2 : List api_Msg) (x0 : Int) (x_27 : nets_Net) (x_20 : List hocketlaw23_flight) (again_32 : (List hocketlaw23_flight) × Int × Int × nets_Net → Option (Unit)) (x_25 : Int) (ex_32 : Unit → Option (Unit)) (x_38 : Bool) : Option (Unit) :=
  if x_38 = true then (
  Option.bind (ix x1 x_26) fun t_43 =>
  if (w64 ((band .i64 (shr .i64 t_43 4) 15) - 1)) ≥ 0 then (
  hocketlaw23_NetsPlays.J3 K x1 x_26 x2 x0 x_27 x_20 t_43 again_32 x_25 (decide ((w64 ((band .i64 (shr .i64 t_43 4) 15) - 1)) < (x_20.length : Int))))
  else (
  hocketlaw23_NetsPlays.J3 K x1 x_26 x2 x0 x_27 x_20 t_43 again_32 x_25 false))
  else (
  ex_32 ())
def hocketlaw23_NetsPlays.B1 (K : Nat) (x1 : List Int) (x2 : List api_Msg) (x0 : Int) (ex_32 : Unit → Option (Unit)) (again_32 : (List hocketlaw23_flight) × Int × Int × nets_Net → Option (Unit)) (x_20 : List hocketlaw23_flight) (x_25 : Int) (x_26 : Int) (x_27 : nets_Net) : Option (Unit) :=
  if x_26 < (x1.length : Int) then (
  hocketlaw23_NetsPlays.J2 K x1 x_26 x2 x0 x_27 x_20 again_32 x_25 ex_32 (decide (x_26 < 120)))
  else (
  hocketlaw23_NetsPlays.J2 K x1 x_26 x2 x0 x_27 x_20 again_32 x_25 ex_32 false)
def hocketlaw23_NetsPlays.L1 (K : Nat) (x1 : List Int) (x2 : List api_Msg) (x0 : Int) (ex_32 : Unit → Option (Unit)) : Nat → (List hocketlaw23_flight) × Int × Int × nets_Net → Option (Unit) :=
  iter fun again v => hocketlaw23_NetsPlays.B1 K x1 x2 x0 ex_32 again v.1 v.2.1 v.2.2.1 v.2.2.2
def hocketlaw23_NetsPlays.f (K : Nat) (x0 : Int) (x1 : List Int) (x2 : List api_Msg) : Option (Unit) :=
  Option.bind (nets_New.f (w64 ((band .i64 x0 7) + 0))) fun t_1 =>
  hocketlaw23_NetsPlays.L1 K x1 x2 x0 (fun v => hocketlaw23_NetsPlays.J1 K) K (([] : List hocketlaw23_flight), 0, 0, (⟨t_1.1, t_1.2.1, t_1.2.2⟩ : nets_Net))

end Go.Gp
