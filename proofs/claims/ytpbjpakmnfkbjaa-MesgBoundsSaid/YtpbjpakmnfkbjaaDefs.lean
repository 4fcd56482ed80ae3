/- The functions that the law reaches, told plainly. -/
import Derived.Test.YtpbjpakmnfkbjaaLa
namespace Go.Gp
set_option linter.unusedVariables false
structure api_Cmd where
  Kind : Int
  Who : Int
  Key : List UInt8
  Val : List UInt8
  Old : List UInt8
  deriving DecidableEq
structure api_Entry where
  Sess : Int
  Seq : Int
  Cmd : api_Cmd
  deriving DecidableEq
structure api_Msg where
  Kind : Int
  From : Int
  To : Int
  View : Int
  Inst : Int
  Len : Int
  Has : Bool
  Members : Int
  Source : Int
  At : Int
  Total : Int
  Data : List UInt8
  Hop : Int
  Seq : Int
  Have : List Int
  Need : List Int
  Index : Int
  Entry : api_Entry
  deriving DecidableEq
structure pack_Reader where
  b : List UInt8
  bad : Bool
  deriving DecidableEq
structure An_m_ok where
  m : api_Msg
  ok : Bool
  deriving DecidableEq
def ok_api_Cmd (x : api_Cmd) : Prop := i64ok x.Kind ∧ i64ok x.Who ∧ (x.Key.length ≤ 140737488351232 ∧ ∀ z ∈ x.Key, True) ∧ (x.Val.length ≤ 140737488351232 ∧ ∀ z ∈ x.Val, True) ∧ (x.Old.length ≤ 140737488351232 ∧ ∀ z ∈ x.Old, True)
def ok_api_Entry (x : api_Entry) : Prop := i64ok x.Sess ∧ i64ok x.Seq ∧ ok_api_Cmd x.Cmd
def ok_api_Msg (x : api_Msg) : Prop := i64ok x.Kind ∧ i64ok x.From ∧ i64ok x.To ∧ i64ok x.View ∧ i64ok x.Inst ∧ i64ok x.Len ∧ True ∧ i64ok x.Members ∧ i64ok x.Source ∧ i64ok x.At ∧ i64ok x.Total ∧ (x.Data.length ≤ 140737488351232 ∧ ∀ z ∈ x.Data, True) ∧ i64ok x.Hop ∧ i64ok x.Seq ∧ (x.Have.length ≤ 140737488351232 ∧ ∀ z ∈ x.Have, i64ok z) ∧ (x.Need.length ≤ 140737488351232 ∧ ∀ z ∈ x.Need, i64ok z) ∧ i64ok x.Index ∧ ok_api_Entry x.Entry
def ok_pack_Reader (x : pack_Reader) : Prop := (x.b.length ≤ 140737488351232 ∧ ∀ z ∈ x.b, True) ∧ True
def ok_An_m_ok (x : An_m_ok) : Prop := ok_api_Msg x.m ∧ True
def mesg_beyond.f (x0 : api_Msg) : Option (Bool) :=
  if (x0.Have.length : Int) > 7 then (
  if x0.Kind = 7 then (
  some true)
  else (
  if (x0.Need.length : Int) > 8 then (
  if (x0.Data.length : Int) > 64 then (
  some (x0.Kind == 5))
  else (
  some false))
  else (
  if (x0.Data.length : Int) > 64 then (
  some (x0.Kind == 5))
  else (
  some false))))
  else (
  if (x0.Need.length : Int) > 8 then (
  if x0.Kind = 7 then (
  some true)
  else (
  if (x0.Data.length : Int) > 64 then (
  some (x0.Kind == 5))
  else (
  some false)))
  else (
  if (x0.Data.length : Int) > 64 then (
  some (x0.Kind == 5))
  else (
  some false)))

def mesg_flag.f (x0 : Bool) : Option (Int) :=
  if x0 = true then (
  some 1)
  else (
  some 0)



def slices_Clone_sbyte_byte.f (x0 : List UInt8) : Option (List UInt8) :=
  app 140737488355328 ([] : List UInt8) x0

def pack_held.f (x0 : Int) : Option (Int) :=
  some (mn (mx x0 0) 4611686018427387904)

def pack_Num.J1 (K : Nat) (x_18 : Int) (x_19 : List UInt8) : Option ((List UInt8)) :=
  Option.bind (app 140737488355328 x_19 ([toU8 x_18] : List UInt8)) fun t_32 =>
  some t_32
def pack_Num.B1 (K : Nat) (ex_45 : Int × (List UInt8) → Option ((List UInt8))) (again_45 : Int × (List UInt8) → Option ((List UInt8))) (x_39 : Int) (x_40 : List UInt8) : Option ((List UInt8)) :=
  if x_39 ≥ 128 then (
  Option.bind (app 140737488355328 x_40 ([toU8 (bor .i64 (band .i64 x_39 127) 128)] : List UInt8)) fun t_55 =>
  again_45 (shr .i64 x_39 7, t_55))
  else (
  ex_45 (x_39, x_40))
def pack_Num.L1 (K : Nat) (ex_45 : Int × (List UInt8) → Option ((List UInt8))) : Nat → Int × (List UInt8) → Option ((List UInt8)) :=
  iter fun again v => pack_Num.B1 K ex_45 again v.1 v.2
def pack_Num.f (K : Nat) (x0 : List UInt8) (x1 : Int) : Option ((List UInt8)) :=
  Option.bind (slices_Clone_sbyte_byte.f x0) fun t_1 =>
  Option.bind (pack_held.f x1) fun t_13 =>
  pack_Num.L1 K (fun v => pack_Num.J1 K v.1 v.2) K (t_13, t_1)

def pack_Bytes.f (K : Nat) (x0 : List UInt8) (x1 : List UInt8) : Option ((List UInt8)) :=
  Option.bind (pack_Num.f K x0 (x1.length : Int)) fun t_1 =>
  Option.bind (app 140737488355328 t_1 x1) fun t_9 =>
  some t_9

def mesg_row.J1 (K : Nat) (x_11 : List UInt8) : Option ((List UInt8)) :=
  some x_11
def mesg_row.B1 (K : Nat) (x1 : List Int) (ex_25 : (List UInt8) → Option ((List UInt8))) (again_25 : (List UInt8) × Int → Option ((List UInt8))) (x_19 : List UInt8) (x_24 : Int) : Option ((List UInt8)) :=
  if x_24 < (x1.length : Int) then (
  Option.bind (ix x1 x_24) fun t_29 =>
  Option.bind (pack_Num.f K x_19 t_29) fun t_34 =>
  again_25 (t_34, w64 (x_24 + 1)))
  else (
  ex_25 x_19)
def mesg_row.L1 (K : Nat) (x1 : List Int) (ex_25 : (List UInt8) → Option ((List UInt8))) : Nat → (List UInt8) × Int → Option ((List UInt8)) :=
  iter fun again v => mesg_row.B1 K x1 ex_25 again v.1 v.2
def mesg_row.f (K : Nat) (x0 : List UInt8) (x1 : List Int) : Option ((List UInt8)) :=
  Option.bind (pack_Num.f K x0 (x1.length : Int)) fun t_1 =>
  mesg_row.L1 K x1 (fun v => mesg_row.J1 K v) K (t_1, 0)

def mach_PutEntry.J2 (K : Nat) (x_26 : List UInt8) : Option ((List UInt8)) :=
  some x_26
def mach_PutEntry.B1 (K : Nat) (x1 : api_Entry) (ex_40 : (List UInt8) → Option ((List UInt8))) (again_40 : (List UInt8) × Int → Option ((List UInt8))) (x_34 : List UInt8) (x_39 : Int) : Option ((List UInt8)) :=
  if x_39 < (([x1.Cmd.Key, x1.Cmd.Val, x1.Cmd.Old] : List (List UInt8)).length : Int) then (
  Option.bind (ix ([x1.Cmd.Key, x1.Cmd.Val, x1.Cmd.Old] : List (List UInt8)) x_39) fun t_44 =>
  Option.bind (pack_Bytes.f K x_34 t_44) fun t_51 =>
  again_40 (t_51, w64 (x_39 + 1)))
  else (
  ex_40 x_34)
def mach_PutEntry.L1 (K : Nat) (x1 : api_Entry) (ex_40 : (List UInt8) → Option ((List UInt8))) : Nat → (List UInt8) × Int → Option ((List UInt8)) :=
  iter fun again v => mach_PutEntry.B1 K x1 ex_40 again v.1 v.2
def mach_PutEntry.J1 (K : Nat) (x1 : api_Entry) (x_11 : List UInt8) : Option ((List UInt8)) :=
  mach_PutEntry.L1 K x1 (fun v => mach_PutEntry.J2 K v) K (x_11, 0)
def mach_PutEntry.B2 (K : Nat) (x1 : api_Entry) (ex_66 : (List UInt8) → Option ((List UInt8))) (again_66 : (List UInt8) × Int → Option ((List UInt8))) (x_60 : List UInt8) (x_65 : Int) : Option ((List UInt8)) :=
  if x_65 < (([x1.Sess, x1.Seq, x1.Cmd.Kind, x1.Cmd.Who] : List Int).length : Int) then (
  Option.bind (ix ([x1.Sess, x1.Seq, x1.Cmd.Kind, x1.Cmd.Who] : List Int) x_65) fun t_84 =>
  Option.bind (pack_Num.f K x_60 t_84) fun t_89 =>
  again_66 (t_89, w64 (x_65 + 1)))
  else (
  ex_66 x_60)
def mach_PutEntry.L2 (K : Nat) (x1 : api_Entry) (ex_66 : (List UInt8) → Option ((List UInt8))) : Nat → (List UInt8) × Int → Option ((List UInt8)) :=
  iter fun again v => mach_PutEntry.B2 K x1 ex_66 again v.1 v.2
def mach_PutEntry.f (K : Nat) (x0 : List UInt8) (x1 : api_Entry) : Option ((List UInt8)) :=
  Option.bind (ix ([x1.Sess, x1.Seq, x1.Cmd.Kind, x1.Cmd.Who] : List Int) 0) fun t_69 =>
  Option.bind (pack_Num.f K x0 t_69) fun t_74 =>
  mach_PutEntry.L2 K x1 (fun v => mach_PutEntry.J1 K x1 v) K (t_74, w64 (0 + 1))

def pack_Read.f (x0 : List UInt8) : Option ((List UInt8) × Bool) :=
  Option.bind (slices_Clone_sbyte_byte.f x0) fun t_1 =>
  some (t_1, false)

def pack_Reader_fail.f (x0_b : List UInt8) (x0_bad : Bool) : Option (Int × (List UInt8) × Bool) :=
  some (0, ([] : List UInt8), true)

def pack_Reader_Num.J1 (K : Nat) (x0_b : List UInt8) (x0_bad : Bool) : Option (Int × (List UInt8) × Bool) :=
  Option.bind (pack_Reader_fail.f x0_b x0_bad) fun t_5 =>
  some (t_5.1, t_5.2.1, t_5.2.2)
def pack_Reader_Num.J2 (K : Nat) (ex_15 : Unit → Option (Int × (List UInt8) × Bool)) (x_14 : Int) (t_19 : UInt8) (again_15 : Int × Int → Option (Int × (List UInt8) × Bool)) (x_13 : Int) (x1 : Int) (x0_b : List UInt8) (x0_bad : Bool) (x_27 : Bool) : Option (Int × (List UInt8) × Bool) :=
  if x_27 = true then (
  ex_15 ())
  else (
  Option.bind (must (0 ≤ (w64 (7 * x_14)))) fun u_31 =>
  if (t_19.toNat : Int) ≥ ((128 : UInt8).toNat : Int) then (
  again_15 (bor .i64 x_13 (shl .i64 ((t_19 &&& (127 : UInt8)).toNat : Int) (w64 (7 * x_14))), w64 (x_14 + 1)))
  else (
  Option.bind (pack_held.f x1) fun t_35 =>
  if (bor .i64 x_13 (shl .i64 ((t_19 &&& (127 : UInt8)).toNat : Int) (w64 (7 * x_14)))) > t_35 then (
  ex_15 ())
  else (
  Option.bind (cut x0_b (w64 (x_14 + 1)) (x0_b.length : Int)) fun t_40 =>
  some (bor .i64 x_13 (shl .i64 ((t_19 &&& (127 : UInt8)).toNat : Int) (w64 (7 * x_14))), t_40, x0_bad))))
def pack_Reader_Num.B1 (K : Nat) (x0_b : List UInt8) (x1 : Int) (x0_bad : Bool) (ex_15 : Unit → Option (Int × (List UInt8) × Bool)) (again_15 : Int × Int → Option (Int × (List UInt8) × Bool)) (x_13 : Int) (x_14 : Int) : Option (Int × (List UInt8) × Bool) :=
  if x_14 < (x0_b.length : Int) then (
  Option.bind (ix x0_b x_14) fun t_19 =>
  if x_14 > 8 then (
  pack_Reader_Num.J2 K ex_15 x_14 t_19 again_15 x_13 x1 x0_b x0_bad true)
  else (
  if (t_19.toNat : Int) = ((0 : UInt8).toNat : Int) then (
  pack_Reader_Num.J2 K ex_15 x_14 t_19 again_15 x_13 x1 x0_b x0_bad (decide (x_14 > 0)))
  else (
  pack_Reader_Num.J2 K ex_15 x_14 t_19 again_15 x_13 x1 x0_b x0_bad false)))
  else (
  ex_15 ())
def pack_Reader_Num.L1 (K : Nat) (x0_b : List UInt8) (x1 : Int) (x0_bad : Bool) (ex_15 : Unit → Option (Int × (List UInt8) × Bool)) : Nat → Int × Int → Option (Int × (List UInt8) × Bool) :=
  iter fun again v => pack_Reader_Num.B1 K x0_b x1 x0_bad ex_15 again v.1 v.2
def pack_Reader_Num.f (K : Nat) (x0_b : List UInt8) (x0_bad : Bool) (x1 : Int) : Option (Int × (List UInt8) × Bool) :=
  pack_Reader_Num.L1 K x0_b x1 x0_bad (fun v => pack_Reader_Num.J1 K x0_b x0_bad) K (0, 0)

def pack_Reader_Bytes.f (K : Nat) (x0_b : List UInt8) (x0_bad : Bool) (x1 : Int) : Option ((List UInt8) × (List UInt8) × Bool) :=
  Option.bind (pack_Reader_Num.f K x0_b x0_bad x1) fun t_1 =>
  if t_1.1 > (t_1.2.1.length : Int) then (
  Option.bind (pack_Reader_fail.f t_1.2.1 t_1.2.2) fun t_10 =>
  some (([] : List UInt8), t_10.2.1, t_10.2.2))
  else (
  Option.bind (cut t_1.2.1 0 t_1.1) fun t_18 =>
  Option.bind (slices_Clone_sbyte_byte.f t_18) fun t_21 =>
  Option.bind (cut t_1.2.1 t_1.1 (t_1.2.1.length : Int)) fun t_29 =>
  some (t_21, t_29, t_1.2.2))

def mesg_numbers.J1 (K : Nat) (x_10 : List Int) (x_15 : List UInt8) (x_18 : Bool) : Option ((List Int) × (List UInt8) × Bool) :=
  some (x_10, x_15, x_18)
def mesg_numbers.B1 (K : Nat) (t_2 : Int × (List UInt8) × Bool) (ex_32 : (List Int) × (List UInt8) × Bool → Option ((List Int) × (List UInt8) × Bool)) (again_32 : (List Int) × Int × (List UInt8) × Bool → Option ((List Int) × (List UInt8) × Bool)) (x_22 : List Int) (x_27 : Int) (x_28 : List UInt8) (x_31 : Bool) : Option ((List Int) × (List UInt8) × Bool) :=
  if x_27 < t_2.1 then (
  Option.bind (pack_Reader_Num.f K x_28 x_31 1099511627776) fun t_37 =>
  Option.bind (app 17592186044416 x_22 ([t_37.1] : List Int)) fun t_50 =>
  again_32 (t_50, w64 (x_27 + 1), t_37.2.1, t_37.2.2))
  else (
  ex_32 (x_22, x_28, x_31))
def mesg_numbers.L1 (K : Nat) (t_2 : Int × (List UInt8) × Bool) (ex_32 : (List Int) × (List UInt8) × Bool → Option ((List Int) × (List UInt8) × Bool)) : Nat → (List Int) × Int × (List UInt8) × Bool → Option ((List Int) × (List UInt8) × Bool) :=
  iter fun again v => mesg_numbers.B1 K t_2 ex_32 again v.1 v.2.1 v.2.2.1 v.2.2.2
def mesg_numbers.f (K : Nat) (x0_b : List UInt8) (x0_bad : Bool) (x1 : Int) : Option ((List Int) × (List UInt8) × Bool) :=
  Option.bind (pack_Reader_Num.f K x0_b x0_bad x1) fun t_2 =>
  mesg_numbers.L1 K t_2 (fun v => mesg_numbers.J1 K v.1 v.2.1 v.2.2) K (([] : List Int), 0, t_2.2.1, t_2.2.2)

def pack_Reader_Ok.f (x0_b : List UInt8) (x0_bad : Bool) : Option (Bool) :=
  some (!x0_bad)

def mach_GetEntry.f (K : Nat) (x0_b : List UInt8) (x0_bad : Bool) : Option (api_Entry × (List UInt8) × Bool) :=
  Option.bind (pack_Reader_Num.f K x0_b x0_bad 1073741824) fun t_3 =>
  Option.bind (pack_Reader_Num.f K t_3.2.1 t_3.2.2 1073741824) fun t_10 =>
  Option.bind (pack_Reader_Num.f K t_10.2.1 t_10.2.2 1073741824) fun t_20 =>
  Option.bind (pack_Reader_Num.f K t_20.2.1 t_20.2.2 1073741824) fun t_27 =>
  Option.bind (pack_Reader_Bytes.f K t_27.2.1 t_27.2.2 32) fun t_36 =>
  Option.bind (pack_Reader_Bytes.f K t_36.2.1 t_36.2.2 32) fun t_47 =>
  Option.bind (pack_Reader_Bytes.f K t_47.2.1 t_47.2.2 32) fun t_58 =>
  Option.bind (pack_Reader_Ok.f t_58.2.1 t_58.2.2) fun t_73 =>
  if t_73 = true then (
  some ((⟨t_3.1, t_10.1, (⟨t_20.1, t_27.1, t_36.1, t_47.1, t_58.1⟩ : api_Cmd)⟩ : api_Entry), t_58.2.1, t_58.2.2))
  else (
  some ((⟨0, 0, (⟨0, 0, ([] : List UInt8), ([] : List UInt8), ([] : List UInt8)⟩ : api_Cmd)⟩ : api_Entry), t_58.2.1, t_58.2.2))

def pack_Reader_End.f (x0_b : List UInt8) (x0_bad : Bool) : Option (Bool) :=
  if x0_bad = true then (
  some false)
  else (
  some ((x0_b.length : Int) == 0))

def mesg_read.J1 (K : Nat) (x_39 : pack_Reader) (x_42 : api_Msg) : Option (api_Msg × Bool) :=
  Option.bind (pack_Reader_End.f x_39.b x_39.bad) fun t_71 =>
  some (x_42, t_71)
def mesg_read.J2 (K : Nat) (t_28 : Int × (List UInt8) × Bool) (t_10 : Int × (List UInt8) × Bool) (t_16 : Int × (List UInt8) × Bool) (t_22 : Int × (List UInt8) × Bool) (x_78 : Bool) : Option (api_Msg × Bool) :=
  if x_78 = true then (
  mesg_read.J1 K (⟨t_28.2.1, t_28.2.2⟩ : pack_Reader) (⟨t_10.1, t_16.1, t_22.1, t_28.1, 0, 0, false, 0, 0, 0, 0, ([] : List UInt8), 0, 0, ([] : List Int), ([] : List Int), 0, (⟨0, 0, (⟨0, 0, ([] : List UInt8), ([] : List UInt8), ([] : List UInt8)⟩ : api_Cmd)⟩ : api_Entry)⟩ : api_Msg))
  else (
  if t_10.1 = 2 then (
  Option.bind (pack_Reader_Num.f K t_28.2.1 t_28.2.2 1099511627776) fun t_89 =>
  Option.bind (pack_Reader_Num.f K t_89.2.1 t_89.2.2 1099511627776) fun t_95 =>
  Option.bind (pack_Reader_Num.f K t_95.2.1 t_95.2.2 1) fun t_101 =>
  mesg_read.J1 K (⟨t_101.2.1, t_101.2.2⟩ : pack_Reader) (⟨t_10.1, t_16.1, t_22.1, t_28.1, t_89.1, t_95.1, (t_101.1 == 1), 0, 0, 0, 0, ([] : List UInt8), 0, 0, ([] : List Int), ([] : List Int), 0, (⟨0, 0, (⟨0, 0, ([] : List UInt8), ([] : List UInt8), ([] : List UInt8)⟩ : api_Cmd)⟩ : api_Entry)⟩ : api_Msg))
  else (
  if t_10.1 = 3 then (
  Option.bind (pack_Reader_Num.f K t_28.2.1 t_28.2.2 127) fun t_117 =>
  Option.bind (pack_Reader_Num.f K t_117.2.1 t_117.2.2 6) fun t_123 =>
  Option.bind (pack_Reader_Num.f K t_123.2.1 t_123.2.2 1099511627776) fun t_129 =>
  mesg_read.J1 K (⟨t_129.2.1, t_129.2.2⟩ : pack_Reader) (⟨t_10.1, t_16.1, t_22.1, t_28.1, 0, t_129.1, false, t_117.1, t_123.1, 0, 0, ([] : List UInt8), 0, 0, ([] : List Int), ([] : List Int), 0, (⟨0, 0, (⟨0, 0, ([] : List UInt8), ([] : List UInt8), ([] : List UInt8)⟩ : api_Cmd)⟩ : api_Entry)⟩ : api_Msg))
  else (
  if t_10.1 = 4 then (
  Option.bind (pack_Reader_Num.f K t_28.2.1 t_28.2.2 1099511627776) fun t_145 =>
  mesg_read.J1 K (⟨t_145.2.1, t_145.2.2⟩ : pack_Reader) (⟨t_10.1, t_16.1, t_22.1, t_28.1, 0, 0, false, 0, 0, t_145.1, 0, ([] : List UInt8), 0, 0, ([] : List Int), ([] : List Int), 0, (⟨0, 0, (⟨0, 0, ([] : List UInt8), ([] : List UInt8), ([] : List UInt8)⟩ : api_Cmd)⟩ : api_Entry)⟩ : api_Msg))
  else (
  if t_10.1 = 5 then (
  Option.bind (pack_Reader_Num.f K t_28.2.1 t_28.2.2 1099511627776) fun t_159 =>
  Option.bind (pack_Reader_Num.f K t_159.2.1 t_159.2.2 1099511627776) fun t_165 =>
  Option.bind (pack_Reader_Bytes.f K t_165.2.1 t_165.2.2 64) fun t_171 =>
  mesg_read.J1 K (⟨t_171.2.1, t_171.2.2⟩ : pack_Reader) (⟨t_10.1, t_16.1, t_22.1, t_28.1, 0, 0, false, 0, 0, t_159.1, t_165.1, t_171.1, 0, 0, ([] : List Int), ([] : List Int), 0, (⟨0, 0, (⟨0, 0, ([] : List UInt8), ([] : List UInt8), ([] : List UInt8)⟩ : api_Cmd)⟩ : api_Entry)⟩ : api_Msg))
  else (
  if t_10.1 = 7 then (
  Option.bind (pack_Reader_Num.f K t_28.2.1 t_28.2.2 1099511627776) fun t_190 =>
  Option.bind (pack_Reader_Num.f K t_190.2.1 t_190.2.2 1099511627776) fun t_196 =>
  Option.bind (mesg_numbers.f K t_196.2.1 t_196.2.2 7) fun t_204 =>
  Option.bind (mesg_numbers.f K t_204.2.1 t_204.2.2 8) fun t_214 =>
  mesg_read.J1 K (⟨t_214.2.1, t_214.2.2⟩ : pack_Reader) (⟨t_10.1, t_16.1, t_22.1, t_28.1, 0, 0, false, 0, 0, 0, 0, ([] : List UInt8), t_190.1, t_196.1, t_204.1, t_214.1, 0, (⟨0, 0, (⟨0, 0, ([] : List UInt8), ([] : List UInt8), ([] : List UInt8)⟩ : api_Cmd)⟩ : api_Entry)⟩ : api_Msg))
  else (
  if t_10.1 = 8 then (
  Option.bind (pack_Reader_Num.f K t_28.2.1 t_28.2.2 1099511627776) fun t_231 =>
  Option.bind (mach_GetEntry.f K t_231.2.1 t_231.2.2) fun t_237 =>
  mesg_read.J1 K (⟨t_237.2.1, t_237.2.2⟩ : pack_Reader) (⟨t_10.1, t_16.1, t_22.1, t_28.1, 0, 0, false, 0, 0, 0, 0, ([] : List UInt8), 0, 0, ([] : List Int), ([] : List Int), t_231.1, t_237.1⟩ : api_Msg))
  else (
  some ((⟨0, 0, 0, 0, 0, 0, false, 0, 0, 0, 0, ([] : List UInt8), 0, 0, ([] : List Int), ([] : List Int), 0, (⟨0, 0, (⟨0, 0, ([] : List UInt8), ([] : List UInt8), ([] : List UInt8)⟩ : api_Cmd)⟩ : api_Entry)⟩ : api_Msg), false))))))))
def mesg_read.f (K : Nat) (x0 : List UInt8) : Option (api_Msg × Bool) :=
  Option.bind (pack_Read.f x0) fun t_3 =>
  Option.bind (pack_Reader_Num.f K t_3.1 t_3.2 8) fun t_10 =>
  Option.bind (pack_Reader_Num.f K t_10.2.1 t_10.2.2 6) fun t_16 =>
  Option.bind (pack_Reader_Num.f K t_16.2.1 t_16.2.2 6) fun t_22 =>
  Option.bind (pack_Reader_Num.f K t_22.2.1 t_22.2.2 1099511627776) fun t_28 =>
  if t_10.1 = 1 then (
  mesg_read.J2 K t_28 t_10 t_16 t_22 (t_10.1 == 1))
  else (
  mesg_read.J2 K t_28 t_10 t_16 t_22 (t_10.1 == 6))

def bytes_Equal.f (x0 : List UInt8) (x1 : List UInt8) : Option (Bool) :=
  some (x0 == x1)

def slices_Equal_sint_int.J1 (K : Nat) : Option (Bool) :=
  some true
def slices_Equal_sint_int.B1 (K : Nat) (x0 : List Int) (x1 : List Int) (ex_9 : Unit → Option (Bool)) (again_9 : Int → Option (Bool)) (x_8 : Int) : Option (Bool) :=
  if x_8 < (x0.length : Int) then (
  Option.bind (ix x0 x_8) fun t_16 =>
  Option.bind (ix x1 x_8) fun t_21 =>
  if t_16 = t_21 then (
  again_9 (w64 (x_8 + 1)))
  else (
  some false))
  else (
  ex_9 ())
def slices_Equal_sint_int.L1 (K : Nat) (x0 : List Int) (x1 : List Int) (ex_9 : Unit → Option (Bool)) : Nat → Int → Option (Bool) :=
  iter fun again v => slices_Equal_sint_int.B1 K x0 x1 ex_9 again v
def slices_Equal_sint_int.f (K : Nat) (x0 : List Int) (x1 : List Int) : Option (Bool) :=
  if (x0.length : Int) = (x1.length : Int) then (
  slices_Equal_sint_int.L1 K x0 x1 (fun v => slices_Equal_sint_int.J1 K) K 0)
  else (
  some false)

def mach_SameEntry.f (x0 : api_Entry) (x1 : api_Entry) : Option (Bool) :=
  if x0.Sess = x1.Sess then (
  if x0.Seq = x1.Seq then (
  if x0.Cmd.Kind = x1.Cmd.Kind then (
  if x0.Cmd.Who = x1.Cmd.Who then (
  Option.bind (bytes_Equal.f x0.Cmd.Key x1.Cmd.Key) fun t_51 =>
  if t_51 = true then (
  Option.bind (bytes_Equal.f x0.Cmd.Val x1.Cmd.Val) fun t_56 =>
  if t_56 = true then (
  Option.bind (bytes_Equal.f x0.Cmd.Old x1.Cmd.Old) fun t_61 =>
  some t_61)
  else (
  some false))
  else (
  some false))
  else (
  some false))
  else (
  some false))
  else (
  some false))
  else (
  some false)

def mesg_fields.f (K : Nat) (x0 : api_Msg) (x1 : api_Msg) : Option (Bool) :=
  if x0.Kind = 2 then (
  if x0.Inst = x1.Inst then (
  if x0.Len = x1.Len then (
  some (x0.Has == x1.Has))
  else (
  some false))
  else (
  some false))
  else (
  if x0.Kind = 3 then (
  if x0.Members = x1.Members then (
  if x0.Source = x1.Source then (
  some (x0.Len == x1.Len))
  else (
  some false))
  else (
  some false))
  else (
  if x0.Kind = 4 then (
  some (x0.At == x1.At))
  else (
  if x0.Kind = 5 then (
  if x0.At = x1.At then (
  if x0.Total = x1.Total then (
  Option.bind (bytes_Equal.f x0.Data x1.Data) fun t_19 =>
  some t_19)
  else (
  some false))
  else (
  some false))
  else (
  if x0.Kind = 7 then (
  if x0.Hop = x1.Hop then (
  if x0.Seq = x1.Seq then (
  Option.bind (slices_Equal_sint_int.f K x0.Have x1.Have) fun t_27 =>
  if t_27 = true then (
  Option.bind (slices_Equal_sint_int.f K x0.Need x1.Need) fun t_32 =>
  some t_32)
  else (
  some false))
  else (
  some false))
  else (
  some false))
  else (
  if x0.Kind = 8 then (
  if x0.Index = x1.Index then (
  Option.bind (mach_SameEntry.f x0.Entry x1.Entry) fun t_39 =>
  some t_39)
  else (
  some false))
  else (
  some true))))))

def mesg_alike.f (K : Nat) (x0 : api_Msg) (x1 : api_Msg) : Option (Bool) :=
  if x0.Kind = x1.Kind then (
  if x0.From = x1.From then (
  if x0.To = x1.To then (
  if x0.View = x1.View then (
  Option.bind (mesg_fields.f K x0 x1) fun t_10 =>
  some t_10)
  else (
  some false))
  else (
  some false))
  else (
  some false))
  else (
  some false)

def mesg_Decode.f (K : Nat) (x0 : List UInt8) : Option (api_Msg × Bool) :=
  Option.bind (mesg_read.f K x0) fun t_3 =>
  if t_3.2 = true then (
  some (t_3.1, true))
  else (
  some ((⟨0, 0, 0, 0, 0, 0, false, 0, 0, 0, 0, ([] : List UInt8), 0, 0, ([] : List Int), ([] : List Int), 0, (⟨0, 0, (⟨0, 0, ([] : List UInt8), ([] : List UInt8), ([] : List UInt8)⟩ : api_Cmd)⟩ : api_Entry)⟩ : api_Msg), false))

def mesg_Same.J1 (K : Nat) (x0 : api_Msg) (x1 : api_Msg) : Option (Bool) :=
  some (x0.Kind == x1.Kind)
def mesg_Same.B1 (K : Nat) (x0 : api_Msg) (x1 : api_Msg) (ex_11 : Unit → Option (Bool)) (again_11 : Int → Option (Bool)) (x_10 : Int) : Option (Bool) :=
  if x_10 ≤ 8 then (
  Option.bind (mesg_alike.f K (⟨x_10, x0.From, x0.To, x0.View, x0.Inst, x0.Len, x0.Has, x0.Members, x0.Source, x0.At, x0.Total, x0.Data, x0.Hop, x0.Seq, x0.Have, x0.Need, x0.Index, x0.Entry⟩ : api_Msg) (⟨x_10, x1.From, x1.To, x1.View, x1.Inst, x1.Len, x1.Has, x1.Members, x1.Source, x1.At, x1.Total, x1.Data, x1.Hop, x1.Seq, x1.Have, x1.Need, x1.Index, x1.Entry⟩ : api_Msg)) fun t_59 =>
  if t_59 = true then (
  again_11 (w64 (x_10 + 1)))
  else (
  some false))
  else (
  ex_11 ())
def mesg_Same.L1 (K : Nat) (x0 : api_Msg) (x1 : api_Msg) (ex_11 : Unit → Option (Bool)) : Nat → Int → Option (Bool) :=
  iter fun again v => mesg_Same.B1 K x0 x1 ex_11 again v
def mesg_Same.f (K : Nat) (x0 : api_Msg) (x1 : api_Msg) : Option (Bool) :=
  mesg_Same.L1 K x0 x1 (fun v => mesg_Same.J1 K x0 x1) K 1

def mesg_write_1.J1 (K : Nat) (x_3 : List UInt8) : Option ((List UInt8)) :=
  some x_3
def mesg_write_1.B1 (K : Nat) (x0 : List Int) (ex_17 : (List UInt8) → Option ((List UInt8))) (again_17 : Int × (List UInt8) → Option ((List UInt8))) (x_11 : Int) (x_12 : List UInt8) : Option ((List UInt8)) :=
  if x_11 < (x0.length : Int) then (
  Option.bind (ix x0 x_11) fun t_21 =>
  Option.bind (pack_Num.f K x_12 t_21) fun t_26 =>
  again_17 (w64 (x_11 + 1), t_26))
  else (
  ex_17 x_12)
def mesg_write_1.L1 (K : Nat) (x0 : List Int) (ex_17 : (List UInt8) → Option ((List UInt8))) : Nat → Int × (List UInt8) → Option ((List UInt8)) :=
  iter fun again v => mesg_write_1.B1 K x0 ex_17 again v.1 v.2
def mesg_write_1.f (K : Nat) (x0 : List Int) (x1_ : List UInt8) : Option ((List UInt8)) :=
  mesg_write_1.L1 K x0 (fun v => mesg_write_1.J1 K v) K (0, x1_)

def mesg_write.f (K : Nat) (x0 : api_Msg) : Option ((List UInt8)) :=
  Option.bind (mesg_write_1.f K ([x0.Kind, x0.From, x0.To, x0.View] : List Int) ([] : List UInt8)) fun t_12 =>
  if x0.Kind = 2 then (
  Option.bind (mesg_flag.f x0.Has) fun t_23 =>
  Option.bind (mesg_write_1.f K ([x0.Inst, x0.Len, t_23] : List Int) t_12) fun t_33 =>
  some t_33)
  else (
  if x0.Kind = 3 then (
  Option.bind (mesg_write_1.f K ([x0.Members, x0.Source, x0.Len] : List Int) t_12) fun t_48 =>
  some t_48)
  else (
  if x0.Kind = 4 then (
  Option.bind (mesg_write_1.f K ([x0.At] : List Int) t_12) fun t_63 =>
  some t_63)
  else (
  if x0.Kind = 5 then (
  Option.bind (mesg_write_1.f K ([x0.At, x0.Total] : List Int) t_12) fun t_78 =>
  Option.bind (pack_Bytes.f K t_78 x0.Data) fun t_86 =>
  some t_86)
  else (
  if x0.Kind = 7 then (
  Option.bind (mesg_write_1.f K ([x0.Hop, x0.Seq] : List Int) t_12) fun t_102 =>
  Option.bind (mesg_row.f K t_102 x0.Have) fun t_111 =>
  Option.bind (mesg_row.f K t_111 x0.Need) fun t_119 =>
  some t_119)
  else (
  if x0.Kind = 8 then (
  Option.bind (mesg_write_1.f K ([x0.Index] : List Int) t_12) fun t_135 =>
  Option.bind (mach_PutEntry.f K t_135 x0.Entry) fun t_143 =>
  some t_143)
  else (
  some t_12))))))

def mesg_Encode.f (K : Nat) (x0 : api_Msg) : Option ((List UInt8)) :=
  Option.bind (mesg_beyond.f x0) fun t_4 =>
  if t_4 = true then (
  some ([] : List UInt8))
  else (
  Option.bind (mesg_write.f K x0) fun t_10 =>
  Option.bind (mesg_read.f K t_10) fun t_19 =>
  if t_19.2 = true then (
  Option.bind (mesg_alike.f K t_19.1 x0) fun t_52 =>
  if t_52 = true then (
  some t_10)
  else (
  some ([] : List UInt8)))
  else (
  some ([] : List UInt8)))

def hocketlaw11_awake.f (K : Nat) : Option (Unit) :=
  Option.bind (mesg_Encode.f K (⟨7, 1, 2, 300, 0, 0, false, 0, 0, 0, 0, ([] : List UInt8), 4, 5, ([5, 4] : List Int), ([5] : List Int), 0, (⟨0, 0, (⟨0, 0, ([] : List UInt8), ([] : List UInt8), ([] : List UInt8)⟩ : api_Cmd)⟩ : api_Entry)⟩ : api_Msg)) fun t_16 =>
  Option.bind (mesg_Decode.f K t_16) fun t_24 =>
  Option.bind (app 140737488355328 t_16 ([(0 : UInt8)] : List UInt8)) fun t_61 =>
  Option.bind (mesg_Decode.f K t_61) fun t_72 =>
  if t_16 = ([7, 1, 2, 172, 2, 4, 5, 2, 5, 4, 1, 5] : List UInt8) then (
  if t_24.2 = true then (
  Option.bind (mesg_Same.f K t_24.1 (⟨7, 1, 2, 300, 0, 0, false, 0, 0, 0, 0, ([] : List UInt8), 4, 5, ([5, 4] : List Int), ([5] : List Int), 0, (⟨0, 0, (⟨0, 0, ([] : List UInt8), ([] : List UInt8), ([] : List UInt8)⟩ : api_Cmd)⟩ : api_Entry)⟩ : api_Msg)) fun t_106 =>
  if t_106 = true then (
  if t_72.2 = true then (
  none)
  else (
  Option.bind (mesg_Encode.f K (⟨0, 0, 0, 0, 0, 0, false, 0, 0, 0, 0, ([] : List UInt8), 0, 0, ([] : List Int), ([] : List Int), 0, (⟨0, 0, (⟨0, 0, ([] : List UInt8), ([] : List UInt8), ([] : List UInt8)⟩ : api_Cmd)⟩ : api_Entry)⟩ : api_Msg)) fun t_112 =>
  if (t_112.length : Int) = 0 then (
  Option.bind (mesg_Encode.f K (⟨1, 7, 0, 0, 0, 0, false, 0, 0, 0, 0, ([] : List UInt8), 0, 0, ([] : List Int), ([] : List Int), 0, (⟨0, 0, (⟨0, 0, ([] : List UInt8), ([] : List UInt8), ([] : List UInt8)⟩ : api_Cmd)⟩ : api_Entry)⟩ : api_Msg)) fun t_121 =>
  if (t_121.length : Int) = 0 then (
  Option.bind (mesg_Same.f K (⟨7, 1, 2, 300, 0, 0, false, 0, 0, 0, 0, ([] : List UInt8), 4, 5, ([5, 4] : List Int), ([5] : List Int), 0, (⟨0, 0, (⟨0, 0, ([] : List UInt8), ([] : List UInt8), ([] : List UInt8)⟩ : api_Cmd)⟩ : api_Entry)⟩ : api_Msg) (⟨0, 0, 0, 0, 0, 0, false, 0, 0, 0, 0, ([] : List UInt8), 0, 0, ([] : List Int), ([] : List Int), 0, (⟨0, 0, (⟨0, 0, ([] : List UInt8), ([] : List UInt8), ([] : List UInt8)⟩ : api_Cmd)⟩ : api_Entry)⟩ : api_Msg)) fun t_130 =>
  if t_130 = true then (
  none)
  else (
  some ()))
  else (
  none))
  else (
  none)))
  else (
  none))
  else (
  none))
  else (
  none)

def hocketlaw11_MesgBounds.f (K : Nat) (x0 : Int) : Option (Unit) :=
  Option.bind (mk 17592186044416 7 0) fun t_4 =>
  Option.bind (mk 17592186044416 8 0) fun t_10 =>
  Option.bind (mk 140737488355328 64 (0 : UInt8)) fun t_77 =>
  Option.bind (mk 140737488355328 65 (0 : UInt8)) fun t_90 =>
  Option.bind (mk 17592186044416 9 0) fun t_103 =>
  Option.bind (mk 140737488355328 32 (0 : UInt8)) fun t_129 =>
  Option.bind (mk 140737488355328 33 (0 : UInt8)) fun t_144 =>
  Option.bind (rem (band .i64 x0 255) (([(⟨(⟨0, 0, 0, 0, 0, 0, false, 0, 0, 0, 0, ([] : List UInt8), 0, 0, ([] : List Int), ([] : List Int), 0, (⟨0, 0, (⟨0, 0, ([] : List UInt8), ([] : List UInt8), ([] : List UInt8)⟩ : api_Cmd)⟩ : api_Entry)⟩ : api_Msg), false⟩ : An_m_ok), (⟨(⟨1, 0, 0, 0, 0, 0, false, 0, 0, 0, 0, ([] : List UInt8), 0, 0, ([] : List Int), ([] : List Int), 0, (⟨0, 0, (⟨0, 0, ([] : List UInt8), ([] : List UInt8), ([] : List UInt8)⟩ : api_Cmd)⟩ : api_Entry)⟩ : api_Msg), true⟩ : An_m_ok), (⟨(⟨9, 0, 0, 0, 0, 0, false, 0, 0, 0, 0, ([] : List UInt8), 0, 0, ([] : List Int), ([] : List Int), 0, (⟨0, 0, (⟨0, 0, ([] : List UInt8), ([] : List UInt8), ([] : List UInt8)⟩ : api_Cmd)⟩ : api_Entry)⟩ : api_Msg), false⟩ : An_m_ok), (⟨(⟨(-1), 0, 0, 0, 0, 0, false, 0, 0, 0, 0, ([] : List UInt8), 0, 0, ([] : List Int), ([] : List Int), 0, (⟨0, 0, (⟨0, 0, ([] : List UInt8), ([] : List UInt8), ([] : List UInt8)⟩ : api_Cmd)⟩ : api_Entry)⟩ : api_Msg), false⟩ : An_m_ok), (⟨(⟨1, 6, 6, 1099511627776, 0, 0, false, 0, 0, 0, 0, ([] : List UInt8), 0, 0, ([] : List Int), ([] : List Int), 0, (⟨0, 0, (⟨0, 0, ([] : List UInt8), ([] : List UInt8), ([] : List UInt8)⟩ : api_Cmd)⟩ : api_Entry)⟩ : api_Msg), true⟩ : An_m_ok), (⟨(⟨1, 7, 0, 0, 0, 0, false, 0, 0, 0, 0, ([] : List UInt8), 0, 0, ([] : List Int), ([] : List Int), 0, (⟨0, 0, (⟨0, 0, ([] : List UInt8), ([] : List UInt8), ([] : List UInt8)⟩ : api_Cmd)⟩ : api_Entry)⟩ : api_Msg), false⟩ : An_m_ok), (⟨(⟨1, 0, (-1), 0, 0, 0, false, 0, 0, 0, 0, ([] : List UInt8), 0, 0, ([] : List Int), ([] : List Int), 0, (⟨0, 0, (⟨0, 0, ([] : List UInt8), ([] : List UInt8), ([] : List UInt8)⟩ : api_Cmd)⟩ : api_Entry)⟩ : api_Msg), false⟩ : An_m_ok), (⟨(⟨1, 0, 0, w64 (1099511627776 + 1), 0, 0, false, 0, 0, 0, 0, ([] : List UInt8), 0, 0, ([] : List Int), ([] : List Int), 0, (⟨0, 0, (⟨0, 0, ([] : List UInt8), ([] : List UInt8), ([] : List UInt8)⟩ : api_Cmd)⟩ : api_Entry)⟩ : api_Msg), false⟩ : An_m_ok), (⟨(⟨1, 0, 0, (-1), 0, 0, false, 0, 0, 0, 0, ([] : List UInt8), 0, 0, ([] : List Int), ([] : List Int), 0, (⟨0, 0, (⟨0, 0, ([] : List UInt8), ([] : List UInt8), ([] : List UInt8)⟩ : api_Cmd)⟩ : api_Entry)⟩ : api_Msg), false⟩ : An_m_ok), (⟨(⟨2, 0, 0, 0, 1099511627776, 1099511627776, false, 0, 0, 0, 0, ([] : List UInt8), 0, 0, ([] : List Int), ([] : List Int), 0, (⟨0, 0, (⟨0, 0, ([] : List UInt8), ([] : List UInt8), ([] : List UInt8)⟩ : api_Cmd)⟩ : api_Entry)⟩ : api_Msg), true⟩ : An_m_ok), (⟨(⟨2, 0, 0, 0, w64 (1099511627776 + 1), 0, false, 0, 0, 0, 0, ([] : List UInt8), 0, 0, ([] : List Int), ([] : List Int), 0, (⟨0, 0, (⟨0, 0, ([] : List UInt8), ([] : List UInt8), ([] : List UInt8)⟩ : api_Cmd)⟩ : api_Entry)⟩ : api_Msg), false⟩ : An_m_ok), (⟨(⟨2, 0, 0, 0, 0, (-1), false, 0, 0, 0, 0, ([] : List UInt8), 0, 0, ([] : List Int), ([] : List Int), 0, (⟨0, 0, (⟨0, 0, ([] : List UInt8), ([] : List UInt8), ([] : List UInt8)⟩ : api_Cmd)⟩ : api_Entry)⟩ : api_Msg), false⟩ : An_m_ok), (⟨(⟨3, 0, 0, 0, 0, 1099511627776, false, 127, 6, 0, 0, ([] : List UInt8), 0, 0, ([] : List Int), ([] : List Int), 0, (⟨0, 0, (⟨0, 0, ([] : List UInt8), ([] : List UInt8), ([] : List UInt8)⟩ : api_Cmd)⟩ : api_Entry)⟩ : api_Msg), true⟩ : An_m_ok), (⟨(⟨3, 0, 0, 0, 0, 0, false, 128, 0, 0, 0, ([] : List UInt8), 0, 0, ([] : List Int), ([] : List Int), 0, (⟨0, 0, (⟨0, 0, ([] : List UInt8), ([] : List UInt8), ([] : List UInt8)⟩ : api_Cmd)⟩ : api_Entry)⟩ : api_Msg), false⟩ : An_m_ok), (⟨(⟨3, 0, 0, 0, 0, 0, false, 0, 7, 0, 0, ([] : List UInt8), 0, 0, ([] : List Int), ([] : List Int), 0, (⟨0, 0, (⟨0, 0, ([] : List UInt8), ([] : List UInt8), ([] : List UInt8)⟩ : api_Cmd)⟩ : api_Entry)⟩ : api_Msg), false⟩ : An_m_ok), (⟨(⟨4, 0, 0, 0, 0, 0, false, 0, 0, 1099511627776, 0, ([] : List UInt8), 0, 0, ([] : List Int), ([] : List Int), 0, (⟨0, 0, (⟨0, 0, ([] : List UInt8), ([] : List UInt8), ([] : List UInt8)⟩ : api_Cmd)⟩ : api_Entry)⟩ : api_Msg), true⟩ : An_m_ok), (⟨(⟨4, 0, 0, 0, 0, 0, false, 0, 0, w64 (1099511627776 + 1), 0, ([] : List UInt8), 0, 0, ([] : List Int), ([] : List Int), 0, (⟨0, 0, (⟨0, 0, ([] : List UInt8), ([] : List UInt8), ([] : List UInt8)⟩ : api_Cmd)⟩ : api_Entry)⟩ : api_Msg), false⟩ : An_m_ok), (⟨(⟨5, 0, 0, 0, 0, 0, false, 0, 0, 0, 0, t_77, 0, 0, ([] : List Int), ([] : List Int), 0, (⟨0, 0, (⟨0, 0, ([] : List UInt8), ([] : List UInt8), ([] : List UInt8)⟩ : api_Cmd)⟩ : api_Entry)⟩ : api_Msg), true⟩ : An_m_ok), (⟨(⟨5, 0, 0, 0, 0, 0, false, 0, 0, 0, 0, t_90, 0, 0, ([] : List Int), ([] : List Int), 0, (⟨0, 0, (⟨0, 0, ([] : List UInt8), ([] : List UInt8), ([] : List UInt8)⟩ : api_Cmd)⟩ : api_Entry)⟩ : api_Msg), false⟩ : An_m_ok), (⟨(⟨5, 0, 0, 0, 0, 0, false, 0, 0, 0, (-1), ([] : List UInt8), 0, 0, ([] : List Int), ([] : List Int), 0, (⟨0, 0, (⟨0, 0, ([] : List UInt8), ([] : List UInt8), ([] : List UInt8)⟩ : api_Cmd)⟩ : api_Entry)⟩ : api_Msg), false⟩ : An_m_ok), (⟨(⟨7, 0, 0, 0, 0, 0, false, 0, 0, 0, 0, ([] : List UInt8), 0, 0, t_4, t_10, 0, (⟨0, 0, (⟨0, 0, ([] : List UInt8), ([] : List UInt8), ([] : List UInt8)⟩ : api_Cmd)⟩ : api_Entry)⟩ : api_Msg), true⟩ : An_m_ok), (⟨(⟨7, 0, 0, 0, 0, 0, false, 0, 0, 0, 0, ([] : List UInt8), 0, 0, t_10, ([] : List Int), 0, (⟨0, 0, (⟨0, 0, ([] : List UInt8), ([] : List UInt8), ([] : List UInt8)⟩ : api_Cmd)⟩ : api_Entry)⟩ : api_Msg), false⟩ : An_m_ok), (⟨(⟨7, 0, 0, 0, 0, 0, false, 0, 0, 0, 0, ([] : List UInt8), 0, 0, ([] : List Int), t_103, 0, (⟨0, 0, (⟨0, 0, ([] : List UInt8), ([] : List UInt8), ([] : List UInt8)⟩ : api_Cmd)⟩ : api_Entry)⟩ : api_Msg), false⟩ : An_m_ok), (⟨(⟨7, 0, 0, 0, 0, 0, false, 0, 0, 0, 0, ([] : List UInt8), 0, 0, ([(-1)] : List Int), ([] : List Int), 0, (⟨0, 0, (⟨0, 0, ([] : List UInt8), ([] : List UInt8), ([] : List UInt8)⟩ : api_Cmd)⟩ : api_Entry)⟩ : api_Msg), false⟩ : An_m_ok), (⟨(⟨7, 0, 0, 0, 0, 0, false, 0, 0, 0, 0, ([] : List UInt8), w64 (1099511627776 + 1), 0, ([] : List Int), ([] : List Int), 0, (⟨0, 0, (⟨0, 0, ([] : List UInt8), ([] : List UInt8), ([] : List UInt8)⟩ : api_Cmd)⟩ : api_Entry)⟩ : api_Msg), false⟩ : An_m_ok), (⟨(⟨8, 0, 0, 0, 0, 0, false, 0, 0, 0, 0, ([] : List UInt8), 0, 0, ([] : List Int), ([] : List Int), 1099511627776, (⟨0, 0, (⟨0, 0, ([] : List UInt8), ([] : List UInt8), ([] : List UInt8)⟩ : api_Cmd)⟩ : api_Entry)⟩ : api_Msg), true⟩ : An_m_ok), (⟨(⟨8, 0, 0, 0, 0, 0, false, 0, 0, 0, 0, ([] : List UInt8), 0, 0, ([] : List Int), ([] : List Int), 0, (⟨1073741824, 1073741824, (⟨1073741824, 1073741824, t_129, ([] : List UInt8), ([] : List UInt8)⟩ : api_Cmd)⟩ : api_Entry)⟩ : api_Msg), true⟩ : An_m_ok), (⟨(⟨8, 0, 0, 0, 0, 0, false, 0, 0, 0, 0, ([] : List UInt8), 0, 0, ([] : List Int), ([] : List Int), 0, (⟨1073741825, 0, (⟨0, 0, ([] : List UInt8), ([] : List UInt8), ([] : List UInt8)⟩ : api_Cmd)⟩ : api_Entry)⟩ : api_Msg), false⟩ : An_m_ok), (⟨(⟨8, 0, 0, 0, 0, 0, false, 0, 0, 0, 0, ([] : List UInt8), 0, 0, ([] : List Int), ([] : List Int), 0, (⟨0, 0, (⟨0, 0, ([] : List UInt8), t_144, ([] : List UInt8)⟩ : api_Cmd)⟩ : api_Entry)⟩ : api_Msg), false⟩ : An_m_ok), (⟨(⟨6, 0, 0, 0, 0, 0, false, 999, 0, 0, 0, ([] : List UInt8), 0, 0, t_10, ([] : List Int), 0, (⟨0, 0, (⟨0, 0, ([] : List UInt8), ([] : List UInt8), ([] : List UInt8)⟩ : api_Cmd)⟩ : api_Entry)⟩ : api_Msg), true⟩ : An_m_ok)] : List An_m_ok).length : Int)) fun t_354 =>
  Option.bind (ix ([(⟨(⟨0, 0, 0, 0, 0, 0, false, 0, 0, 0, 0, ([] : List UInt8), 0, 0, ([] : List Int), ([] : List Int), 0, (⟨0, 0, (⟨0, 0, ([] : List UInt8), ([] : List UInt8), ([] : List UInt8)⟩ : api_Cmd)⟩ : api_Entry)⟩ : api_Msg), false⟩ : An_m_ok), (⟨(⟨1, 0, 0, 0, 0, 0, false, 0, 0, 0, 0, ([] : List UInt8), 0, 0, ([] : List Int), ([] : List Int), 0, (⟨0, 0, (⟨0, 0, ([] : List UInt8), ([] : List UInt8), ([] : List UInt8)⟩ : api_Cmd)⟩ : api_Entry)⟩ : api_Msg), true⟩ : An_m_ok), (⟨(⟨9, 0, 0, 0, 0, 0, false, 0, 0, 0, 0, ([] : List UInt8), 0, 0, ([] : List Int), ([] : List Int), 0, (⟨0, 0, (⟨0, 0, ([] : List UInt8), ([] : List UInt8), ([] : List UInt8)⟩ : api_Cmd)⟩ : api_Entry)⟩ : api_Msg), false⟩ : An_m_ok), (⟨(⟨(-1), 0, 0, 0, 0, 0, false, 0, 0, 0, 0, ([] : List UInt8), 0, 0, ([] : List Int), ([] : List Int), 0, (⟨0, 0, (⟨0, 0, ([] : List UInt8), ([] : List UInt8), ([] : List UInt8)⟩ : api_Cmd)⟩ : api_Entry)⟩ : api_Msg), false⟩ : An_m_ok), (⟨(⟨1, 6, 6, 1099511627776, 0, 0, false, 0, 0, 0, 0, ([] : List UInt8), 0, 0, ([] : List Int), ([] : List Int), 0, (⟨0, 0, (⟨0, 0, ([] : List UInt8), ([] : List UInt8), ([] : List UInt8)⟩ : api_Cmd)⟩ : api_Entry)⟩ : api_Msg), true⟩ : An_m_ok), (⟨(⟨1, 7, 0, 0, 0, 0, false, 0, 0, 0, 0, ([] : List UInt8), 0, 0, ([] : List Int), ([] : List Int), 0, (⟨0, 0, (⟨0, 0, ([] : List UInt8), ([] : List UInt8), ([] : List UInt8)⟩ : api_Cmd)⟩ : api_Entry)⟩ : api_Msg), false⟩ : An_m_ok), (⟨(⟨1, 0, (-1), 0, 0, 0, false, 0, 0, 0, 0, ([] : List UInt8), 0, 0, ([] : List Int), ([] : List Int), 0, (⟨0, 0, (⟨0, 0, ([] : List UInt8), ([] : List UInt8), ([] : List UInt8)⟩ : api_Cmd)⟩ : api_Entry)⟩ : api_Msg), false⟩ : An_m_ok), (⟨(⟨1, 0, 0, w64 (1099511627776 + 1), 0, 0, false, 0, 0, 0, 0, ([] : List UInt8), 0, 0, ([] : List Int), ([] : List Int), 0, (⟨0, 0, (⟨0, 0, ([] : List UInt8), ([] : List UInt8), ([] : List UInt8)⟩ : api_Cmd)⟩ : api_Entry)⟩ : api_Msg), false⟩ : An_m_ok), (⟨(⟨1, 0, 0, (-1), 0, 0, false, 0, 0, 0, 0, ([] : List UInt8), 0, 0, ([] : List Int), ([] : List Int), 0, (⟨0, 0, (⟨0, 0, ([] : List UInt8), ([] : List UInt8), ([] : List UInt8)⟩ : api_Cmd)⟩ : api_Entry)⟩ : api_Msg), false⟩ : An_m_ok), (⟨(⟨2, 0, 0, 0, 1099511627776, 1099511627776, false, 0, 0, 0, 0, ([] : List UInt8), 0, 0, ([] : List Int), ([] : List Int), 0, (⟨0, 0, (⟨0, 0, ([] : List UInt8), ([] : List UInt8), ([] : List UInt8)⟩ : api_Cmd)⟩ : api_Entry)⟩ : api_Msg), true⟩ : An_m_ok), (⟨(⟨2, 0, 0, 0, w64 (1099511627776 + 1), 0, false, 0, 0, 0, 0, ([] : List UInt8), 0, 0, ([] : List Int), ([] : List Int), 0, (⟨0, 0, (⟨0, 0, ([] : List UInt8), ([] : List UInt8), ([] : List UInt8)⟩ : api_Cmd)⟩ : api_Entry)⟩ : api_Msg), false⟩ : An_m_ok), (⟨(⟨2, 0, 0, 0, 0, (-1), false, 0, 0, 0, 0, ([] : List UInt8), 0, 0, ([] : List Int), ([] : List Int), 0, (⟨0, 0, (⟨0, 0, ([] : List UInt8), ([] : List UInt8), ([] : List UInt8)⟩ : api_Cmd)⟩ : api_Entry)⟩ : api_Msg), false⟩ : An_m_ok), (⟨(⟨3, 0, 0, 0, 0, 1099511627776, false, 127, 6, 0, 0, ([] : List UInt8), 0, 0, ([] : List Int), ([] : List Int), 0, (⟨0, 0, (⟨0, 0, ([] : List UInt8), ([] : List UInt8), ([] : List UInt8)⟩ : api_Cmd)⟩ : api_Entry)⟩ : api_Msg), true⟩ : An_m_ok), (⟨(⟨3, 0, 0, 0, 0, 0, false, 128, 0, 0, 0, ([] : List UInt8), 0, 0, ([] : List Int), ([] : List Int), 0, (⟨0, 0, (⟨0, 0, ([] : List UInt8), ([] : List UInt8), ([] : List UInt8)⟩ : api_Cmd)⟩ : api_Entry)⟩ : api_Msg), false⟩ : An_m_ok), (⟨(⟨3, 0, 0, 0, 0, 0, false, 0, 7, 0, 0, ([] : List UInt8), 0, 0, ([] : List Int), ([] : List Int), 0, (⟨0, 0, (⟨0, 0, ([] : List UInt8), ([] : List UInt8), ([] : List UInt8)⟩ : api_Cmd)⟩ : api_Entry)⟩ : api_Msg), false⟩ : An_m_ok), (⟨(⟨4, 0, 0, 0, 0, 0, false, 0, 0, 1099511627776, 0, ([] : List UInt8), 0, 0, ([] : List Int), ([] : List Int), 0, (⟨0, 0, (⟨0, 0, ([] : List UInt8), ([] : List UInt8), ([] : List UInt8)⟩ : api_Cmd)⟩ : api_Entry)⟩ : api_Msg), true⟩ : An_m_ok), (⟨(⟨4, 0, 0, 0, 0, 0, false, 0, 0, w64 (1099511627776 + 1), 0, ([] : List UInt8), 0, 0, ([] : List Int), ([] : List Int), 0, (⟨0, 0, (⟨0, 0, ([] : List UInt8), ([] : List UInt8), ([] : List UInt8)⟩ : api_Cmd)⟩ : api_Entry)⟩ : api_Msg), false⟩ : An_m_ok), (⟨(⟨5, 0, 0, 0, 0, 0, false, 0, 0, 0, 0, t_77, 0, 0, ([] : List Int), ([] : List Int), 0, (⟨0, 0, (⟨0, 0, ([] : List UInt8), ([] : List UInt8), ([] : List UInt8)⟩ : api_Cmd)⟩ : api_Entry)⟩ : api_Msg), true⟩ : An_m_ok), (⟨(⟨5, 0, 0, 0, 0, 0, false, 0, 0, 0, 0, t_90, 0, 0, ([] : List Int), ([] : List Int), 0, (⟨0, 0, (⟨0, 0, ([] : List UInt8), ([] : List UInt8), ([] : List UInt8)⟩ : api_Cmd)⟩ : api_Entry)⟩ : api_Msg), false⟩ : An_m_ok), (⟨(⟨5, 0, 0, 0, 0, 0, false, 0, 0, 0, (-1), ([] : List UInt8), 0, 0, ([] : List Int), ([] : List Int), 0, (⟨0, 0, (⟨0, 0, ([] : List UInt8), ([] : List UInt8), ([] : List UInt8)⟩ : api_Cmd)⟩ : api_Entry)⟩ : api_Msg), false⟩ : An_m_ok), (⟨(⟨7, 0, 0, 0, 0, 0, false, 0, 0, 0, 0, ([] : List UInt8), 0, 0, t_4, t_10, 0, (⟨0, 0, (⟨0, 0, ([] : List UInt8), ([] : List UInt8), ([] : List UInt8)⟩ : api_Cmd)⟩ : api_Entry)⟩ : api_Msg), true⟩ : An_m_ok), (⟨(⟨7, 0, 0, 0, 0, 0, false, 0, 0, 0, 0, ([] : List UInt8), 0, 0, t_10, ([] : List Int), 0, (⟨0, 0, (⟨0, 0, ([] : List UInt8), ([] : List UInt8), ([] : List UInt8)⟩ : api_Cmd)⟩ : api_Entry)⟩ : api_Msg), false⟩ : An_m_ok), (⟨(⟨7, 0, 0, 0, 0, 0, false, 0, 0, 0, 0, ([] : List UInt8), 0, 0, ([] : List Int), t_103, 0, (⟨0, 0, (⟨0, 0, ([] : List UInt8), ([] : List UInt8), ([] : List UInt8)⟩ : api_Cmd)⟩ : api_Entry)⟩ : api_Msg), false⟩ : An_m_ok), (⟨(⟨7, 0, 0, 0, 0, 0, false, 0, 0, 0, 0, ([] : List UInt8), 0, 0, ([(-1)] : List Int), ([] : List Int), 0, (⟨0, 0, (⟨0, 0, ([] : List UInt8), ([] : List UInt8), ([] : List UInt8)⟩ : api_Cmd)⟩ : api_Entry)⟩ : api_Msg), false⟩ : An_m_ok), (⟨(⟨7, 0, 0, 0, 0, 0, false, 0, 0, 0, 0, ([] : List UInt8), w64 (1099511627776 + 1), 0, ([] : List Int), ([] : List Int), 0, (⟨0, 0, (⟨0, 0, ([] : List UInt8), ([] : List UInt8), ([] : List UInt8)⟩ : api_Cmd)⟩ : api_Entry)⟩ : api_Msg), false⟩ : An_m_ok), (⟨(⟨8, 0, 0, 0, 0, 0, false, 0, 0, 0, 0, ([] : List UInt8), 0, 0, ([] : List Int), ([] : List Int), 1099511627776, (⟨0, 0, (⟨0, 0, ([] : List UInt8), ([] : List UInt8), ([] : List UInt8)⟩ : api_Cmd)⟩ : api_Entry)⟩ : api_Msg), true⟩ : An_m_ok), (⟨(⟨8, 0, 0, 0, 0, 0, false, 0, 0, 0, 0, ([] : List UInt8), 0, 0, ([] : List Int), ([] : List Int), 0, (⟨1073741824, 1073741824, (⟨1073741824, 1073741824, t_129, ([] : List UInt8), ([] : List UInt8)⟩ : api_Cmd)⟩ : api_Entry)⟩ : api_Msg), true⟩ : An_m_ok), (⟨(⟨8, 0, 0, 0, 0, 0, false, 0, 0, 0, 0, ([] : List UInt8), 0, 0, ([] : List Int), ([] : List Int), 0, (⟨1073741825, 0, (⟨0, 0, ([] : List UInt8), ([] : List UInt8), ([] : List UInt8)⟩ : api_Cmd)⟩ : api_Entry)⟩ : api_Msg), false⟩ : An_m_ok), (⟨(⟨8, 0, 0, 0, 0, 0, false, 0, 0, 0, 0, ([] : List UInt8), 0, 0, ([] : List Int), ([] : List Int), 0, (⟨0, 0, (⟨0, 0, ([] : List UInt8), t_144, ([] : List UInt8)⟩ : api_Cmd)⟩ : api_Entry)⟩ : api_Msg), false⟩ : An_m_ok), (⟨(⟨6, 0, 0, 0, 0, 0, false, 999, 0, 0, 0, ([] : List UInt8), 0, 0, t_10, ([] : List Int), 0, (⟨0, 0, (⟨0, 0, ([] : List UInt8), ([] : List UInt8), ([] : List UInt8)⟩ : api_Cmd)⟩ : api_Entry)⟩ : api_Msg), true⟩ : An_m_ok)] : List An_m_ok) t_354) fun t_355 =>
  Option.bind (mesg_Encode.f K t_355.m) fun t_375 =>
  Option.bind (mesg_Decode.f K t_375) fun t_383 =>
  if (decide ((t_375.length : Int) > 0)) = t_355.ok then (
  if t_383.2 = t_355.ok then (
  Option.bind (hocketlaw11_awake.f K) fun t_417 =>
  some ())
  else (
  none))
  else (
  none)
end Go.Gp
