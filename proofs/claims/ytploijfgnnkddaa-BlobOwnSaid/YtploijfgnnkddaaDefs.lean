/- The functions that the law reaches, told plainly. -/
import Derived.Test.YtploijfgnnkddaaLa
namespace Go.Gp
set_option linter.unusedVariables false
structure api_Pair where
  Key : List UInt8
  Val : List UInt8
  deriving DecidableEq
structure api_Objects where
  Reg : List UInt8
  Queue : List (List UInt8)
  Lock : List Int
  Map : List api_Pair
  deriving DecidableEq
structure api_Result where
  Err : Int
  Val : List UInt8
  N : Int
  deriving DecidableEq
structure api_Last where
  Sess : Int
  Seq : Int
  Result : api_Result
  deriving DecidableEq
structure api_Machine where
  Objects : api_Objects
  Table : List api_Last
  deriving DecidableEq
structure api_Cmd where
  Kind : Int
  Who : Int
  Key : List UInt8
  Val : List UInt8
  Old : List UInt8
  deriving DecidableEq
structure api_Entry where
  Sess : Int
  Seq : Int
  Cmd : api_Cmd
  deriving DecidableEq
structure api_State where
  At : Int
  Machine : api_Machine
  Rest : List api_Entry
  deriving DecidableEq
structure An_b_ok where
  b : List UInt8
  ok : Bool
  deriving DecidableEq
structure hocketref1_Reader where
  B : List UInt8
  Bad : Bool
  deriving DecidableEq
structure api_Msg where
  Kind : Int
  From : Int
  To : Int
  View : Int
  Inst : Int
  Len : Int
  Has : Bool
  Members : Int
  Source : Int
  At : Int
  Total : Int
  Data : List UInt8
  Hop : Int
  Seq : Int
  Have : List Int
  Need : List Int
  Index : Int
  Entry : api_Entry
  deriving DecidableEq
structure pack_Reader where
  b : List UInt8
  bad : Bool
  deriving DecidableEq
def ok_api_Pair (x : api_Pair) : Prop := (x.Key.length ≤ 140737488351232 ∧ ∀ z ∈ x.Key, True) ∧ (x.Val.length ≤ 140737488351232 ∧ ∀ z ∈ x.Val, True)
def ok_api_Objects (x : api_Objects) : Prop := (x.Reg.length ≤ 140737488351232 ∧ ∀ z ∈ x.Reg, True) ∧ (x.Queue.length ≤ 140737488351232 ∧ ∀ z ∈ x.Queue, (z.length ≤ 140737488351232 ∧ ∀ zz ∈ z, True)) ∧ (x.Lock.length ≤ 140737488351232 ∧ ∀ z ∈ x.Lock, i64ok z) ∧ (x.Map.length ≤ 140737488351232 ∧ ∀ z ∈ x.Map, ok_api_Pair z)
def ok_api_Result (x : api_Result) : Prop := i64ok x.Err ∧ (x.Val.length ≤ 140737488351232 ∧ ∀ z ∈ x.Val, True) ∧ i64ok x.N
def ok_api_Last (x : api_Last) : Prop := i64ok x.Sess ∧ i64ok x.Seq ∧ ok_api_Result x.Result
def ok_api_Machine (x : api_Machine) : Prop := ok_api_Objects x.Objects ∧ (x.Table.length ≤ 140737488351232 ∧ ∀ z ∈ x.Table, ok_api_Last z)
def ok_api_Cmd (x : api_Cmd) : Prop := i64ok x.Kind ∧ i64ok x.Who ∧ (x.Key.length ≤ 140737488351232 ∧ ∀ z ∈ x.Key, True) ∧ (x.Val.length ≤ 140737488351232 ∧ ∀ z ∈ x.Val, True) ∧ (x.Old.length ≤ 140737488351232 ∧ ∀ z ∈ x.Old, True)
def ok_api_Entry (x : api_Entry) : Prop := i64ok x.Sess ∧ i64ok x.Seq ∧ ok_api_Cmd x.Cmd
def ok_api_State (x : api_State) : Prop := i64ok x.At ∧ ok_api_Machine x.Machine ∧ (x.Rest.length ≤ 140737488351232 ∧ ∀ z ∈ x.Rest, ok_api_Entry z)
def ok_An_b_ok (x : An_b_ok) : Prop := (x.b.length ≤ 140737488351232 ∧ ∀ z ∈ x.b, True) ∧ True
def ok_hocketref1_Reader (x : hocketref1_Reader) : Prop := (x.B.length ≤ 140737488351232 ∧ ∀ z ∈ x.B, True) ∧ True
def ok_api_Msg (x : api_Msg) : Prop := i64ok x.Kind ∧ i64ok x.From ∧ i64ok x.To ∧ i64ok x.View ∧ i64ok x.Inst ∧ i64ok x.Len ∧ True ∧ i64ok x.Members ∧ i64ok x.Source ∧ i64ok x.At ∧ i64ok x.Total ∧ (x.Data.length ≤ 140737488351232 ∧ ∀ z ∈ x.Data, True) ∧ i64ok x.Hop ∧ i64ok x.Seq ∧ (x.Have.length ≤ 140737488351232 ∧ ∀ z ∈ x.Have, i64ok z) ∧ (x.Need.length ≤ 140737488351232 ∧ ∀ z ∈ x.Need, i64ok z) ∧ i64ok x.Index ∧ ok_api_Entry x.Entry
def ok_pack_Reader (x : pack_Reader) : Prop := (x.b.length ≤ 140737488351232 ∧ ∀ z ∈ x.b, True) ∧ True
def slices_Clone_sbyte_byte.f (x0 : List UInt8) : Option (List UInt8) :=
  app 140737488355328 ([] : List UInt8) x0



def pack_held.f (x0 : Int) : Option (Int) :=
  some (mn (mx x0 0) 4611686018427387904)

def pack_Num.J1 (K : Nat) (x_18 : Int) (x_19 : List UInt8) : Option ((List UInt8)) :=
  Option.bind (app 140737488355328 x_19 ([toU8 x_18] : List UInt8)) fun t_32 =>
  some t_32
def pack_Num.B1 (K : Nat) (ex_45 : Int × (List UInt8) → Option ((List UInt8))) (again_45 : Int × (List UInt8) → Option ((List UInt8))) (x_39 : Int) (x_40 : List UInt8) : Option ((List UInt8)) :=
  if x_39 ≥ 128 then (
  Option.bind (app 140737488355328 x_40 ([toU8 (bor .i64 (band .i64 x_39 127) 128)] : List UInt8)) fun t_55 =>
  again_45 (shr .i64 x_39 7, t_55))
  else (
  ex_45 (x_39, x_40))
def pack_Num.L1 (K : Nat) (ex_45 : Int × (List UInt8) → Option ((List UInt8))) : Nat → Int × (List UInt8) → Option ((List UInt8)) :=
  iter fun again v => pack_Num.B1 K ex_45 again v.1 v.2
def pack_Num.f (K : Nat) (x0 : List UInt8) (x1 : Int) : Option ((List UInt8)) :=
  Option.bind (slices_Clone_sbyte_byte.f x0) fun t_1 =>
  Option.bind (pack_held.f x1) fun t_13 =>
  pack_Num.L1 K (fun v => pack_Num.J1 K v.1 v.2) K (t_13, t_1)

def pack_Bytes.f (K : Nat) (x0 : List UInt8) (x1 : List UInt8) : Option ((List UInt8)) :=
  Option.bind (pack_Num.f K x0 (x1.length : Int)) fun t_1 =>
  Option.bind (app 140737488355328 t_1 x1) fun t_9 =>
  some t_9

def mach_Encode.J4 (K : Nat) (x_72 : List UInt8) : Option ((List UInt8)) :=
  some x_72
def mach_Encode.J5 (K : Nat) (t_90 : api_Last) (again_86 : (List UInt8) × Int → Option ((List UInt8))) (x_85 : Int) (x_108 : List UInt8) : Option ((List UInt8)) :=
  Option.bind (pack_Bytes.f K x_108 t_90.Result.Val) fun t_115 =>
  again_86 (t_115, w64 (x_85 + 1))
def mach_Encode.B2 (K : Nat) (t_90 : api_Last) (ex_130 : (List UInt8) → Option ((List UInt8))) (again_130 : (List UInt8) × Int → Option ((List UInt8))) (x_124 : List UInt8) (x_129 : Int) : Option ((List UInt8)) :=
  if x_129 < (([t_90.Sess, t_90.Seq, t_90.Result.Err, w64 (t_90.Result.N + 1)] : List Int).length : Int) then (
  Option.bind (ix ([t_90.Sess, t_90.Seq, t_90.Result.Err, w64 (t_90.Result.N + 1)] : List Int) x_129) fun t_134 =>
  Option.bind (pack_Num.f K x_124 t_134) fun t_139 =>
  again_130 (t_139, w64 (x_129 + 1)))
  else (
  ex_130 x_124)
def mach_Encode.L2 (K : Nat) (t_90 : api_Last) (ex_130 : (List UInt8) → Option ((List UInt8))) : Nat → (List UInt8) × Int → Option ((List UInt8)) :=
  iter fun again v => mach_Encode.B2 K t_90 ex_130 again v.1 v.2
def mach_Encode.B1 (K : Nat) (x0 : api_Machine) (ex_86 : (List UInt8) → Option ((List UInt8))) (again_86 : (List UInt8) × Int → Option ((List UInt8))) (x_80 : List UInt8) (x_85 : Int) : Option ((List UInt8)) :=
  if x_85 < (x0.Table.length : Int) then (
  Option.bind (ix x0.Table x_85) fun t_90 =>
  mach_Encode.L2 K t_90 (fun v => mach_Encode.J5 K t_90 again_86 x_85 v) K (x_80, 0))
  else (
  ex_86 x_80)
def mach_Encode.L1 (K : Nat) (x0 : api_Machine) (ex_86 : (List UInt8) → Option ((List UInt8))) : Nat → (List UInt8) × Int → Option ((List UInt8)) :=
  iter fun again v => mach_Encode.B1 K x0 ex_86 again v.1 v.2
def mach_Encode.J3 (K : Nat) (x0 : api_Machine) (x_55 : List UInt8) : Option ((List UInt8)) :=
  Option.bind (pack_Num.f K x_55 (x0.Table.length : Int)) fun t_62 =>
  mach_Encode.L1 K x0 (fun v => mach_Encode.J4 K v) K (t_62, 0)
def mach_Encode.B3 (K : Nat) (x0 : api_Machine) (ex_154 : (List UInt8) → Option ((List UInt8))) (again_154 : (List UInt8) × Int → Option ((List UInt8))) (x_148 : List UInt8) (x_153 : Int) : Option ((List UInt8)) :=
  if x_153 < (x0.Objects.Map.length : Int) then (
  Option.bind (ix x0.Objects.Map x_153) fun t_159 =>
  Option.bind (pack_Bytes.f K x_148 t_159.Key) fun t_172 =>
  Option.bind (pack_Bytes.f K t_172 t_159.Val) fun t_180 =>
  again_154 (t_180, w64 (x_153 + 1)))
  else (
  ex_154 x_148)
def mach_Encode.L3 (K : Nat) (x0 : api_Machine) (ex_154 : (List UInt8) → Option ((List UInt8))) : Nat → (List UInt8) × Int → Option ((List UInt8)) :=
  iter fun again v => mach_Encode.B3 K x0 ex_154 again v.1 v.2
def mach_Encode.J2 (K : Nat) (x0 : api_Machine) (x_38 : List UInt8) : Option ((List UInt8)) :=
  Option.bind (pack_Num.f K x_38 (x0.Objects.Map.length : Int)) fun t_45 =>
  mach_Encode.L3 K x0 (fun v => mach_Encode.J3 K x0 v) K (t_45, 0)
def mach_Encode.B4 (K : Nat) (x0 : api_Machine) (ex_195 : (List UInt8) → Option ((List UInt8))) (again_195 : (List UInt8) × Int → Option ((List UInt8))) (x_189 : List UInt8) (x_194 : Int) : Option ((List UInt8)) :=
  if x_194 < (x0.Objects.Lock.length : Int) then (
  Option.bind (ix x0.Objects.Lock x_194) fun t_199 =>
  Option.bind (pack_Num.f K x_189 t_199) fun t_204 =>
  again_195 (t_204, w64 (x_194 + 1)))
  else (
  ex_195 x_189)
def mach_Encode.L4 (K : Nat) (x0 : api_Machine) (ex_195 : (List UInt8) → Option ((List UInt8))) : Nat → (List UInt8) × Int → Option ((List UInt8)) :=
  iter fun again v => mach_Encode.B4 K x0 ex_195 again v.1 v.2
def mach_Encode.J1 (K : Nat) (x0 : api_Machine) (x_21 : List UInt8) : Option ((List UInt8)) :=
  Option.bind (pack_Num.f K x_21 (x0.Objects.Lock.length : Int)) fun t_28 =>
  mach_Encode.L4 K x0 (fun v => mach_Encode.J2 K x0 v) K (t_28, 0)
def mach_Encode.B5 (K : Nat) (x0 : api_Machine) (ex_219 : (List UInt8) → Option ((List UInt8))) (again_219 : (List UInt8) × Int → Option ((List UInt8))) (x_213 : List UInt8) (x_218 : Int) : Option ((List UInt8)) :=
  if x_218 < (x0.Objects.Queue.length : Int) then (
  Option.bind (ix x0.Objects.Queue x_218) fun t_223 =>
  Option.bind (pack_Bytes.f K x_213 t_223) fun t_230 =>
  again_219 (t_230, w64 (x_218 + 1)))
  else (
  ex_219 x_213)
def mach_Encode.L5 (K : Nat) (x0 : api_Machine) (ex_219 : (List UInt8) → Option ((List UInt8))) : Nat → (List UInt8) × Int → Option ((List UInt8)) :=
  iter fun again v => mach_Encode.B5 K x0 ex_219 again v.1 v.2
def mach_Encode.f (K : Nat) (x0 : api_Machine) : Option ((List UInt8)) :=
  Option.bind (pack_Bytes.f K ([] : List UInt8) x0.Objects.Reg) fun t_3 =>
  Option.bind (pack_Num.f K t_3 (x0.Objects.Queue.length : Int)) fun t_11 =>
  mach_Encode.L5 K x0 (fun v => mach_Encode.J1 K x0 v) K (t_11, 0)

def mach_PutEntry.J2 (K : Nat) (x_26 : List UInt8) : Option ((List UInt8)) :=
  some x_26
def mach_PutEntry.B1 (K : Nat) (x1 : api_Entry) (ex_40 : (List UInt8) → Option ((List UInt8))) (again_40 : (List UInt8) × Int → Option ((List UInt8))) (x_34 : List UInt8) (x_39 : Int) : Option ((List UInt8)) :=
  if x_39 < (([x1.Cmd.Key, x1.Cmd.Val, x1.Cmd.Old] : List (List UInt8)).length : Int) then (
  Option.bind (ix ([x1.Cmd.Key, x1.Cmd.Val, x1.Cmd.Old] : List (List UInt8)) x_39) fun t_44 =>
  Option.bind (pack_Bytes.f K x_34 t_44) fun t_51 =>
  again_40 (t_51, w64 (x_39 + 1)))
  else (
  ex_40 x_34)
def mach_PutEntry.L1 (K : Nat) (x1 : api_Entry) (ex_40 : (List UInt8) → Option ((List UInt8))) : Nat → (List UInt8) × Int → Option ((List UInt8)) :=
  iter fun again v => mach_PutEntry.B1 K x1 ex_40 again v.1 v.2
def mach_PutEntry.J1 (K : Nat) (x1 : api_Entry) (x_11 : List UInt8) : Option ((List UInt8)) :=
  mach_PutEntry.L1 K x1 (fun v => mach_PutEntry.J2 K v) K (x_11, 0)
def mach_PutEntry.B2 (K : Nat) (x1 : api_Entry) (ex_66 : (List UInt8) → Option ((List UInt8))) (again_66 : (List UInt8) × Int → Option ((List UInt8))) (x_60 : List UInt8) (x_65 : Int) : Option ((List UInt8)) :=
  if x_65 < (([x1.Sess, x1.Seq, x1.Cmd.Kind, x1.Cmd.Who] : List Int).length : Int) then (
  Option.bind (ix ([x1.Sess, x1.Seq, x1.Cmd.Kind, x1.Cmd.Who] : List Int) x_65) fun t_84 =>
  Option.bind (pack_Num.f K x_60 t_84) fun t_89 =>
  again_66 (t_89, w64 (x_65 + 1)))
  else (
  ex_66 x_60)
def mach_PutEntry.L2 (K : Nat) (x1 : api_Entry) (ex_66 : (List UInt8) → Option ((List UInt8))) : Nat → (List UInt8) × Int → Option ((List UInt8)) :=
  iter fun again v => mach_PutEntry.B2 K x1 ex_66 again v.1 v.2
def mach_PutEntry.f (K : Nat) (x0 : List UInt8) (x1 : api_Entry) : Option ((List UInt8)) :=
  Option.bind (ix ([x1.Sess, x1.Seq, x1.Cmd.Kind, x1.Cmd.Who] : List Int) 0) fun t_69 =>
  Option.bind (pack_Num.f K x0 t_69) fun t_74 =>
  mach_PutEntry.L2 K x1 (fun v => mach_PutEntry.J1 K x1 v) K (t_74, w64 (0 + 1))

def crcs_Next.J1 (K : Nat) (x_3 : UInt32) : Option (UInt32) :=
  some x_3
def crcs_Next.B1 (K : Nat) (ex_9 : UInt32 → Option (UInt32)) (again_9 : UInt32 × Int → Option (UInt32)) (x_7 : UInt32) (x_8 : Int) : Option (UInt32) :=
  if x_8 < 8 then (
  if ((x_7 &&& (1 : UInt32)).toNat : Int) = ((1 : UInt32).toNat : Int) then (
  again_9 ((toU32 (shr .u32 (x_7.toNat : Int) 1)) ^^^ (3988292384 : UInt32), w64 (x_8 + 1)))
  else (
  again_9 (toU32 (shr .u32 (x_7.toNat : Int) 1), w64 (x_8 + 1))))
  else (
  ex_9 x_7)
def crcs_Next.L1 (K : Nat) (ex_9 : UInt32 → Option (UInt32)) : Nat → UInt32 × Int → Option (UInt32) :=
  iter fun again v => crcs_Next.B1 K ex_9 again v.1 v.2
def crcs_Next.f (K : Nat) (x0 : UInt32) (x1 : UInt8) : Option (UInt32) :=
  crcs_Next.L1 K (fun v => crcs_Next.J1 K v) K (x0 ^^^ (toU32 (x1.toNat : Int)), 0)

def crcs_Sum.J1 (K : Nat) (x_3 : UInt32) : Option (UInt32) :=
  some (x_3 ^^^ (4294967295 : UInt32))
def crcs_Sum.B1 (K : Nat) (x0 : List UInt8) (ex_9 : UInt32 → Option (UInt32)) (again_9 : UInt32 × Int → Option (UInt32)) (x_7 : UInt32) (x_8 : Int) : Option (UInt32) :=
  if x_8 < (x0.length : Int) then (
  Option.bind (ix x0 x_8) fun t_13 =>
  Option.bind (crcs_Next.f K x_7 t_13) fun t_18 =>
  again_9 (t_18, w64 (x_8 + 1)))
  else (
  ex_9 x_7)
def crcs_Sum.L1 (K : Nat) (x0 : List UInt8) (ex_9 : UInt32 → Option (UInt32)) : Nat → UInt32 × Int → Option (UInt32) :=
  iter fun again v => crcs_Sum.B1 K x0 ex_9 again v.1 v.2
def crcs_Sum.f (K : Nat) (x0 : List UInt8) : Option (UInt32) :=
  crcs_Sum.L1 K x0 (fun v => crcs_Sum.J1 K v) K ((4294967295 : UInt32), 0)

def fram_Sealed.f (K : Nat) (x0 : List UInt8) : Option ((List UInt8)) :=
  Option.bind (crcs_Sum.f K x0) fun t_1 =>
  Option.bind (app 140737488355328 ([toU8 (t_1.toNat : Int), toU8 ((toU32 (shr .u32 (t_1.toNat : Int) 8)).toNat : Int), toU8 ((toU32 (shr .u32 (t_1.toNat : Int) 16)).toNat : Int), toU8 ((toU32 (shr .u32 (t_1.toNat : Int) 24)).toNat : Int)] : List UInt8) x0) fun t_11 =>
  some t_11

def blob_Encode.J1 (K : Nat) (x_39 : List UInt8) : Option ((List UInt8)) :=
  Option.bind (fram_Sealed.f K x_39) fun t_46 =>
  some t_46
def blob_Encode.B1 (K : Nat) (x0 : api_State) (ex_61 : (List UInt8) → Option ((List UInt8))) (again_61 : (List UInt8) × Int → Option ((List UInt8))) (x_55 : List UInt8) (x_60 : Int) : Option ((List UInt8)) :=
  if x_60 < (x0.Rest.length : Int) then (
  Option.bind (ix x0.Rest x_60) fun t_65 =>
  Option.bind (mach_PutEntry.f K x_55 t_65) fun t_79 =>
  again_61 (t_79, w64 (x_60 + 1)))
  else (
  ex_61 x_55)
def blob_Encode.L1 (K : Nat) (x0 : api_State) (ex_61 : (List UInt8) → Option ((List UInt8))) : Nat → (List UInt8) × Int → Option ((List UInt8)) :=
  iter fun again v => blob_Encode.B1 K x0 ex_61 again v.1 v.2
def blob_Encode.f (K : Nat) (x0 : api_State) : Option ((List UInt8)) :=
  Option.bind (pack_Num.f K ([] : List UInt8) x0.At) fun t_5 =>
  Option.bind (mach_Encode.f K x0.Machine) fun t_13 =>
  Option.bind (pack_Bytes.f K t_5 t_13) fun t_21 =>
  Option.bind (pack_Num.f K t_21 (x0.Rest.length : Int)) fun t_29 =>
  blob_Encode.L1 K x0 (fun v => blob_Encode.J1 K v) K (t_29, 0)

def fram_Sound.f (K : Nat) (x0 : List UInt8) : Option ((List UInt8) × Bool) :=
  if (x0.length : Int) < 4 then (
  some (([] : List UInt8), false))
  else (
  Option.bind (ix x0 0) fun t_5 =>
  Option.bind (ix x0 1) fun t_10 =>
  Option.bind (ix x0 2) fun t_15 =>
  Option.bind (ix x0 3) fun t_20 =>
  Option.bind (cut x0 4 (x0.length : Int)) fun t_27 =>
  Option.bind (cut x0 4 (x0.length : Int)) fun t_30 =>
  Option.bind (crcs_Sum.f K t_30) fun t_33 =>
  some (t_27, ((((((toU32 (t_5.toNat : Int)) ||| (toU32 (((toU32 (t_10.toNat : Int)).toNat : Int) * 2 ^ (min (8 : Int).toNat 32)))) ||| (toU32 (((toU32 (t_15.toNat : Int)).toNat : Int) * 2 ^ (min (16 : Int).toNat 32)))) ||| (toU32 (((toU32 (t_20.toNat : Int)).toNat : Int) * 2 ^ (min (24 : Int).toNat 32)))).toNat : Int) == (t_33.toNat : Int))))

def pack_Read.f (x0 : List UInt8) : Option ((List UInt8) × Bool) :=
  Option.bind (slices_Clone_sbyte_byte.f x0) fun t_1 =>
  some (t_1, false)

def pack_Reader_fail.f (x0_b : List UInt8) (x0_bad : Bool) : Option (Int × (List UInt8) × Bool) :=
  some (0, ([] : List UInt8), true)

def pack_Reader_Num.J1 (K : Nat) (x0_b : List UInt8) (x0_bad : Bool) : Option (Int × (List UInt8) × Bool) :=
  Option.bind (pack_Reader_fail.f x0_b x0_bad) fun t_5 =>
  some (t_5.1, t_5.2.1, t_5.2.2)
def pack_Reader_Num.J2 (K : Nat) (ex_15 : Unit → Option (Int × (List UInt8) × Bool)) (x_14 : Int) (t_19 : UInt8) (again_15 : Int × Int → Option (Int × (List UInt8) × Bool)) (x_13 : Int) (x1 : Int) (x0_b : List UInt8) (x0_bad : Bool) (x_27 : Bool) : Option (Int × (List UInt8) × Bool) :=
  if x_27 = true then (
  ex_15 ())
  else (
  Option.bind (must (0 ≤ (w64 (7 * x_14)))) fun u_31 =>
  if (t_19.toNat : Int) ≥ ((128 : UInt8).toNat : Int) then (
  again_15 (bor .i64 x_13 (shl .i64 ((t_19 &&& (127 : UInt8)).toNat : Int) (w64 (7 * x_14))), w64 (x_14 + 1)))
  else (
  Option.bind (pack_held.f x1) fun t_35 =>
  if (bor .i64 x_13 (shl .i64 ((t_19 &&& (127 : UInt8)).toNat : Int) (w64 (7 * x_14)))) > t_35 then (
  ex_15 ())
  else (
  Option.bind (cut x0_b (w64 (x_14 + 1)) (x0_b.length : Int)) fun t_40 =>
  some (bor .i64 x_13 (shl .i64 ((t_19 &&& (127 : UInt8)).toNat : Int) (w64 (7 * x_14))), t_40, x0_bad))))
def pack_Reader_Num.B1 (K : Nat) (x0_b : List UInt8) (x1 : Int) (x0_bad : Bool) (ex_15 : Unit → Option (Int × (List UInt8) × Bool)) (again_15 : Int × Int → Option (Int × (List UInt8) × Bool)) (x_13 : Int) (x_14 : Int) : Option (Int × (List UInt8) × Bool) :=
  if x_14 < (x0_b.length : Int) then (
  Option.bind (ix x0_b x_14) fun t_19 =>
  if x_14 > 8 then (
  pack_Reader_Num.J2 K ex_15 x_14 t_19 again_15 x_13 x1 x0_b x0_bad true)
  else (
  if (t_19.toNat : Int) = ((0 : UInt8).toNat : Int) then (
  pack_Reader_Num.J2 K ex_15 x_14 t_19 again_15 x_13 x1 x0_b x0_bad (decide (x_14 > 0)))
  else (
  pack_Reader_Num.J2 K ex_15 x_14 t_19 again_15 x_13 x1 x0_b x0_bad false)))
  else (
  ex_15 ())
def pack_Reader_Num.L1 (K : Nat) (x0_b : List UInt8) (x1 : Int) (x0_bad : Bool) (ex_15 : Unit → Option (Int × (List UInt8) × Bool)) : Nat → Int × Int → Option (Int × (List UInt8) × Bool) :=
  iter fun again v => pack_Reader_Num.B1 K x0_b x1 x0_bad ex_15 again v.1 v.2
def pack_Reader_Num.f (K : Nat) (x0_b : List UInt8) (x0_bad : Bool) (x1 : Int) : Option (Int × (List UInt8) × Bool) :=
  pack_Reader_Num.L1 K x0_b x1 x0_bad (fun v => pack_Reader_Num.J1 K x0_b x0_bad) K (0, 0)

def pack_Reader_End.f (x0_b : List UInt8) (x0_bad : Bool) : Option (Bool) :=
  if x0_bad = true then (
  some false)
  else (
  some ((x0_b.length : Int) == 0))

def pack_Reader_Bytes.f (K : Nat) (x0_b : List UInt8) (x0_bad : Bool) (x1 : Int) : Option ((List UInt8) × (List UInt8) × Bool) :=
  Option.bind (pack_Reader_Num.f K x0_b x0_bad x1) fun t_1 =>
  if t_1.1 > (t_1.2.1.length : Int) then (
  Option.bind (pack_Reader_fail.f t_1.2.1 t_1.2.2) fun t_10 =>
  some (([] : List UInt8), t_10.2.1, t_10.2.2))
  else (
  Option.bind (cut t_1.2.1 0 t_1.1) fun t_18 =>
  Option.bind (slices_Clone_sbyte_byte.f t_18) fun t_21 =>
  Option.bind (cut t_1.2.1 t_1.1 (t_1.2.1.length : Int)) fun t_29 =>
  some (t_21, t_29, t_1.2.2))

def mach_last.f (K : Nat) (x0_b : List UInt8) (x0_bad : Bool) : Option (api_Last × (List UInt8) × Bool) :=
  Option.bind (pack_Reader_Num.f K x0_b x0_bad 1073741824) fun t_3 =>
  Option.bind (pack_Reader_Num.f K t_3.2.1 t_3.2.2 1073741824) fun t_10 =>
  Option.bind (pack_Reader_Num.f K t_10.2.1 t_10.2.2 10) fun t_20 =>
  Option.bind (pack_Reader_Num.f K t_20.2.1 t_20.2.2 1073741825) fun t_28 =>
  Option.bind (pack_Reader_Bytes.f K t_28.2.1 t_28.2.2 16) fun t_36 =>
  some ((⟨t_3.1, t_10.1, (⟨t_20.1, t_36.1, w64 (t_28.1 - 1)⟩ : api_Result)⟩ : api_Last), t_36.2.1, t_36.2.2)

def mach_read.J4 (K : Nat) (t_5 : (List UInt8) × (List UInt8) × Bool) (x_30 : List (List UInt8)) (x_50 : List Int) (x_70 : List api_Pair) (x_86 : List UInt8) (x_89 : Bool) (x_90 : List api_Last) : Option (api_Machine × (List UInt8) × Bool) :=
  some ((⟨(⟨t_5.1, x_30, x_50, x_70⟩ : api_Objects), x_90⟩ : api_Machine), x_86, x_89)
def mach_read.B1 (K : Nat) (t_78 : Int × (List UInt8) × Bool) (ex_109 : (List UInt8) × Bool × (List api_Last) → Option (api_Machine × (List UInt8) × Bool)) (again_109 : Int × (List UInt8) × Bool × (List api_Last) → Option (api_Machine × (List UInt8) × Bool)) (x_99 : Int) (x_100 : List UInt8) (x_103 : Bool) (x_104 : List api_Last) : Option (api_Machine × (List UInt8) × Bool) :=
  if x_99 < t_78.1 then (
  Option.bind (mach_last.f K x_100 x_103) fun t_116 =>
  Option.bind (app 2513169434916 x_104 ([t_116.1] : List api_Last)) fun t_134 =>
  again_109 (w64 (x_99 + 1), t_116.2.1, t_116.2.2, t_134))
  else (
  ex_109 (x_100, x_103, x_104))
def mach_read.L1 (K : Nat) (t_78 : Int × (List UInt8) × Bool) (ex_109 : (List UInt8) × Bool × (List api_Last) → Option (api_Machine × (List UInt8) × Bool)) : Nat → Int × (List UInt8) × Bool × (List api_Last) → Option (api_Machine × (List UInt8) × Bool) :=
  iter fun again v => mach_read.B1 K t_78 ex_109 again v.1 v.2.1 v.2.2.1 v.2.2.2
def mach_read.J3 (K : Nat) (t_5 : (List UInt8) × (List UInt8) × Bool) (x_30 : List (List UInt8)) (x_50 : List Int) (x_66 : List UInt8) (x_69 : Bool) (x_70 : List api_Pair) : Option (api_Machine × (List UInt8) × Bool) :=
  Option.bind (pack_Reader_Num.f K x_66 x_69 8) fun t_78 =>
  mach_read.L1 K t_78 (fun v => mach_read.J4 K t_5 x_30 x_50 x_70 v.1 v.2.1 v.2.2) K (0, t_78.2.1, t_78.2.2, ([] : List api_Last))
def mach_read.B2 (K : Nat) (t_58 : Int × (List UInt8) × Bool) (ex_191 : (List UInt8) × Bool × (List api_Pair) → Option (api_Machine × (List UInt8) × Bool)) (again_191 : Int × (List UInt8) × Bool × (List api_Pair) → Option (api_Machine × (List UInt8) × Bool)) (x_181 : Int) (x_182 : List UInt8) (x_185 : Bool) (x_186 : List api_Pair) : Option (api_Machine × (List UInt8) × Bool) :=
  if x_181 < t_58.1 then (
  Option.bind (pack_Reader_Bytes.f K x_182 x_185 8) fun t_198 =>
  Option.bind (pack_Reader_Bytes.f K t_198.2.1 t_198.2.2 16) fun t_209 =>
  Option.bind (app 2932031007402 x_186 ([(⟨t_198.1, t_209.1⟩ : api_Pair)] : List api_Pair)) fun t_228 =>
  again_191 (w64 (x_181 + 1), t_209.2.1, t_209.2.2, t_228))
  else (
  ex_191 (x_182, x_185, x_186))
def mach_read.L2 (K : Nat) (t_58 : Int × (List UInt8) × Bool) (ex_191 : (List UInt8) × Bool × (List api_Pair) → Option (api_Machine × (List UInt8) × Bool)) : Nat → Int × (List UInt8) × Bool × (List api_Pair) → Option (api_Machine × (List UInt8) × Bool) :=
  iter fun again v => mach_read.B2 K t_58 ex_191 again v.1 v.2.1 v.2.2.1 v.2.2.2
def mach_read.J2 (K : Nat) (t_5 : (List UInt8) × (List UInt8) × Bool) (x_30 : List (List UInt8)) (x_46 : List UInt8) (x_49 : Bool) (x_50 : List Int) : Option (api_Machine × (List UInt8) × Bool) :=
  Option.bind (pack_Reader_Num.f K x_46 x_49 8) fun t_58 =>
  mach_read.L2 K t_58 (fun v => mach_read.J3 K t_5 x_30 x_50 v.1 v.2.1 v.2.2) K (0, t_58.2.1, t_58.2.2, ([] : List api_Pair))
def mach_read.B3 (K : Nat) (t_38 : Int × (List UInt8) × Bool) (ex_324 : (List UInt8) × Bool × (List Int) → Option (api_Machine × (List UInt8) × Bool)) (again_324 : Int × (List UInt8) × Bool × (List Int) → Option (api_Machine × (List UInt8) × Bool)) (x_314 : Int) (x_315 : List UInt8) (x_318 : Bool) (x_319 : List Int) : Option (api_Machine × (List UInt8) × Bool) :=
  if x_314 < t_38.1 then (
  Option.bind (pack_Reader_Num.f K x_315 x_318 999) fun t_331 =>
  Option.bind (app 17592186044416 x_319 ([t_331.1] : List Int)) fun t_344 =>
  again_324 (w64 (x_314 + 1), t_331.2.1, t_331.2.2, t_344))
  else (
  ex_324 (x_315, x_318, x_319))
def mach_read.L3 (K : Nat) (t_38 : Int × (List UInt8) × Bool) (ex_324 : (List UInt8) × Bool × (List Int) → Option (api_Machine × (List UInt8) × Bool)) : Nat → Int × (List UInt8) × Bool × (List Int) → Option (api_Machine × (List UInt8) × Bool) :=
  iter fun again v => mach_read.B3 K t_38 ex_324 again v.1 v.2.1 v.2.2.1 v.2.2.2
def mach_read.J1 (K : Nat) (t_5 : (List UInt8) × (List UInt8) × Bool) (x_26 : List UInt8) (x_29 : Bool) (x_30 : List (List UInt8)) : Option (api_Machine × (List UInt8) × Bool) :=
  Option.bind (pack_Reader_Num.f K x_26 x_29 5) fun t_38 =>
  mach_read.L3 K t_38 (fun v => mach_read.J2 K t_5 x_30 v.1 v.2.1 v.2.2) K (0, t_38.2.1, t_38.2.2, ([] : List Int))
def mach_read.B4 (K : Nat) (t_18 : Int × (List UInt8) × Bool) (ex_395 : (List UInt8) × Bool × (List (List UInt8)) → Option (api_Machine × (List UInt8) × Bool)) (again_395 : Int × (List UInt8) × Bool × (List (List UInt8)) → Option (api_Machine × (List UInt8) × Bool)) (x_385 : Int) (x_386 : List UInt8) (x_389 : Bool) (x_390 : List (List UInt8)) : Option (api_Machine × (List UInt8) × Bool) :=
  if x_385 < t_18.1 then (
  Option.bind (pack_Reader_Bytes.f K x_386 x_389 16) fun t_402 =>
  Option.bind (app 5864062014805 x_390 ([t_402.1] : List (List UInt8))) fun t_420 =>
  again_395 (w64 (x_385 + 1), t_402.2.1, t_402.2.2, t_420))
  else (
  ex_395 (x_386, x_389, x_390))
def mach_read.L4 (K : Nat) (t_18 : Int × (List UInt8) × Bool) (ex_395 : (List UInt8) × Bool × (List (List UInt8)) → Option (api_Machine × (List UInt8) × Bool)) : Nat → Int × (List UInt8) × Bool × (List (List UInt8)) → Option (api_Machine × (List UInt8) × Bool) :=
  iter fun again v => mach_read.B4 K t_18 ex_395 again v.1 v.2.1 v.2.2.1 v.2.2.2
def mach_read.f (K : Nat) (x0_b : List UInt8) (x0_bad : Bool) : Option (api_Machine × (List UInt8) × Bool) :=
  Option.bind (pack_Reader_Bytes.f K x0_b x0_bad 16) fun t_5 =>
  Option.bind (pack_Reader_Num.f K t_5.2.1 t_5.2.2 8) fun t_18 =>
  mach_read.L4 K t_18 (fun v => mach_read.J1 K t_5 v.1 v.2.1 v.2.2) K (0, t_18.2.1, t_18.2.2, ([] : List (List UInt8)))

def slices_Index_sint_int.J1 (K : Nat) : Option (Int) :=
  some (-1)
def slices_Index_sint_int.B1 (K : Nat) (x0 : List Int) (x1 : Int) (ex_7 : Unit → Option (Int)) (again_7 : Int → Option (Int)) (x_6 : Int) : Option (Int) :=
  if x_6 < (x0.length : Int) then (
  Option.bind (ix x0 x_6) fun t_12 =>
  if x1 = t_12 then (
  some x_6)
  else (
  again_7 (w64 (x_6 + 1))))
  else (
  ex_7 ())
def slices_Index_sint_int.L1 (K : Nat) (x0 : List Int) (x1 : Int) (ex_7 : Unit → Option (Int)) : Nat → Int → Option (Int) :=
  iter fun again v => slices_Index_sint_int.B1 K x0 x1 ex_7 again v
def slices_Index_sint_int.f (K : Nat) (x0 : List Int) (x1 : Int) : Option (Int) :=
  slices_Index_sint_int.L1 K x0 x1 (fun v => slices_Index_sint_int.J1 K) K 0

def slices_Contains_sint_int.f (K : Nat) (x0 : List Int) (x1 : Int) : Option (Bool) :=
  Option.bind (slices_Index_sint_int.f K x0 x1) fun t_1 =>
  some (decide (t_1 ≥ 0))

def pack_Reader_Ok.f (x0_b : List UInt8) (x0_bad : Bool) : Option (Bool) :=
  some (!x0_bad)

def mach_GetEntry.f (K : Nat) (x0_b : List UInt8) (x0_bad : Bool) : Option (api_Entry × (List UInt8) × Bool) :=
  Option.bind (pack_Reader_Num.f K x0_b x0_bad 1073741824) fun t_3 =>
  Option.bind (pack_Reader_Num.f K t_3.2.1 t_3.2.2 1073741824) fun t_10 =>
  Option.bind (pack_Reader_Num.f K t_10.2.1 t_10.2.2 1073741824) fun t_20 =>
  Option.bind (pack_Reader_Num.f K t_20.2.1 t_20.2.2 1073741824) fun t_27 =>
  Option.bind (pack_Reader_Bytes.f K t_27.2.1 t_27.2.2 32) fun t_36 =>
  Option.bind (pack_Reader_Bytes.f K t_36.2.1 t_36.2.2 32) fun t_47 =>
  Option.bind (pack_Reader_Bytes.f K t_47.2.1 t_47.2.2 32) fun t_58 =>
  Option.bind (pack_Reader_Ok.f t_58.2.1 t_58.2.2) fun t_73 =>
  if t_73 = true then (
  some ((⟨t_3.1, t_10.1, (⟨t_20.1, t_27.1, t_36.1, t_47.1, t_58.1⟩ : api_Cmd)⟩ : api_Entry), t_58.2.1, t_58.2.2))
  else (
  some ((⟨0, 0, (⟨0, 0, ([] : List UInt8), ([] : List UInt8), ([] : List UInt8)⟩ : api_Cmd)⟩ : api_Entry), t_58.2.1, t_58.2.2))

def hocketref1_Next.J1 (K : Nat) (x_3 : UInt32) : Option (UInt32) :=
  some x_3
def hocketref1_Next.B1 (K : Nat) (ex_9 : UInt32 → Option (UInt32)) (again_9 : UInt32 × Int → Option (UInt32)) (x_7 : UInt32) (x_8 : Int) : Option (UInt32) :=
  if x_8 < 8 then (
  if ((x_7 &&& (1 : UInt32)).toNat : Int) = ((1 : UInt32).toNat : Int) then (
  again_9 ((toU32 (shr .u32 (x_7.toNat : Int) 1)) ^^^ (3988292384 : UInt32), w64 (x_8 + 1)))
  else (
  again_9 (toU32 (shr .u32 (x_7.toNat : Int) 1), w64 (x_8 + 1))))
  else (
  ex_9 x_7)
def hocketref1_Next.L1 (K : Nat) (ex_9 : UInt32 → Option (UInt32)) : Nat → UInt32 × Int → Option (UInt32) :=
  iter fun again v => hocketref1_Next.B1 K ex_9 again v.1 v.2
def hocketref1_Next.f (K : Nat) (x0 : UInt32) (x1 : UInt8) : Option (UInt32) :=
  hocketref1_Next.L1 K (fun v => hocketref1_Next.J1 K v) K (x0 ^^^ (toU32 (x1.toNat : Int)), 0)

def hocketref1_Sum.J1 (K : Nat) (x_3 : UInt32) : Option (UInt32) :=
  some (x_3 ^^^ (4294967295 : UInt32))
def hocketref1_Sum.B1 (K : Nat) (x0 : List UInt8) (ex_9 : UInt32 → Option (UInt32)) (again_9 : UInt32 × Int → Option (UInt32)) (x_7 : UInt32) (x_8 : Int) : Option (UInt32) :=
  if x_8 < (x0.length : Int) then (
  Option.bind (ix x0 x_8) fun t_13 =>
  Option.bind (hocketref1_Next.f K x_7 t_13) fun t_18 =>
  again_9 (t_18, w64 (x_8 + 1)))
  else (
  ex_9 x_7)
def hocketref1_Sum.L1 (K : Nat) (x0 : List UInt8) (ex_9 : UInt32 → Option (UInt32)) : Nat → UInt32 × Int → Option (UInt32) :=
  iter fun again v => hocketref1_Sum.B1 K x0 ex_9 again v.1 v.2
def hocketref1_Sum.f (K : Nat) (x0 : List UInt8) : Option (UInt32) :=
  hocketref1_Sum.L1 K x0 (fun v => hocketref1_Sum.J1 K v) K ((4294967295 : UInt32), 0)

def hocketref1_Four.f (K : Nat) (x0 : List UInt8) : Option ((List UInt8)) :=
  Option.bind (hocketref1_Sum.f K x0) fun t_1 =>
  Option.bind (app 140737488355328 ([toU8 (t_1.toNat : Int), toU8 ((toU32 (shr .u32 (t_1.toNat : Int) 8)).toNat : Int), toU8 ((toU32 (shr .u32 (t_1.toNat : Int) 16)).toNat : Int), toU8 ((toU32 (shr .u32 (t_1.toNat : Int) 24)).toNat : Int)] : List UInt8) x0) fun t_11 =>
  some t_11

def blob_Part.J1 (x0 : List UInt8) (x1 : Int) (x_4 : Bool) : Option ((List UInt8) × Bool) :=
  if x_4 = true then (
  some (([] : List UInt8), false))
  else (
  Option.bind (cut x0 x1 (mn (w64 (x1 + 64)) (x0.length : Int))) fun t_9 =>
  Option.bind (slices_Clone_sbyte_byte.f t_9) fun t_12 =>
  some (t_12, true))
def blob_Part.f (x0 : List UInt8) (x1 : Int) : Option ((List UInt8) × Bool) :=
  if x1 < 0 then (
  blob_Part.J1 x0 x1 true)
  else (
  blob_Part.J1 x0 x1 (decide (x1 ≥ (x0.length : Int))))

def hocketref4_SameRows.J1 (K : Nat) : Option (Bool) :=
  some true
def hocketref4_SameRows.B1 (K : Nat) (x0 : List (List UInt8)) (x1 : List (List UInt8)) (ex_9 : Unit → Option (Bool)) (again_9 : Int → Option (Bool)) (x_8 : Int) : Option (Bool) :=
  if x_8 < (x0.length : Int) then (
  Option.bind (ix x0 x_8) fun t_16 =>
  Option.bind (ix x1 x_8) fun t_23 =>
  if t_16 = t_23 then (
  again_9 (w64 (x_8 + 1)))
  else (
  some false))
  else (
  ex_9 ())
def hocketref4_SameRows.L1 (K : Nat) (x0 : List (List UInt8)) (x1 : List (List UInt8)) (ex_9 : Unit → Option (Bool)) : Nat → Int → Option (Bool) :=
  iter fun again v => hocketref4_SameRows.B1 K x0 x1 ex_9 again v
def hocketref4_SameRows.f (K : Nat) (x0 : List (List UInt8)) (x1 : List (List UInt8)) : Option (Bool) :=
  if (x0.length : Int) = (x1.length : Int) then (
  hocketref4_SameRows.L1 K x0 x1 (fun v => hocketref4_SameRows.J1 K) K 0)
  else (
  some false)

def hocketref1_SameInts.J1 (K : Nat) : Option (Bool) :=
  some true
def hocketref1_SameInts.B1 (K : Nat) (x0 : List Int) (x1 : List Int) (ex_9 : Unit → Option (Bool)) (again_9 : Int → Option (Bool)) (x_8 : Int) : Option (Bool) :=
  if x_8 < (x0.length : Int) then (
  Option.bind (ix x0 x_8) fun t_16 =>
  Option.bind (ix x1 x_8) fun t_21 =>
  if t_16 = t_21 then (
  again_9 (w64 (x_8 + 1)))
  else (
  some false))
  else (
  ex_9 ())
def hocketref1_SameInts.L1 (K : Nat) (x0 : List Int) (x1 : List Int) (ex_9 : Unit → Option (Bool)) : Nat → Int → Option (Bool) :=
  iter fun again v => hocketref1_SameInts.B1 K x0 x1 ex_9 again v
def hocketref1_SameInts.f (K : Nat) (x0 : List Int) (x1 : List Int) : Option (Bool) :=
  if (x0.length : Int) = (x1.length : Int) then (
  hocketref1_SameInts.L1 K x0 x1 (fun v => hocketref1_SameInts.J1 K) K 0)
  else (
  some false)

def hocketref4_SamePairs.J1 (K : Nat) : Option (Bool) :=
  some true
def hocketref4_SamePairs.J2 (K : Nat) (again_9 : Int → Option (Bool)) (x_8 : Int) (x_16 : Bool) : Option (Bool) :=
  if x_16 = true then (
  some false)
  else (
  again_9 (w64 (x_8 + 1)))
def hocketref4_SamePairs.B1 (K : Nat) (x0 : List api_Pair) (x1 : List api_Pair) (ex_9 : Unit → Option (Bool)) (again_9 : Int → Option (Bool)) (x_8 : Int) : Option (Bool) :=
  if x_8 < (x0.length : Int) then (
  Option.bind (ix x0 x_8) fun t_21 =>
  Option.bind (ix x1 x_8) fun t_30 =>
  if t_21.Key = t_30.Key then (
  Option.bind (ix x0 x_8) fun t_40 =>
  Option.bind (ix x1 x_8) fun t_49 =>
  hocketref4_SamePairs.J2 K again_9 x_8 (!(t_40.Val == t_49.Val)))
  else (
  hocketref4_SamePairs.J2 K again_9 x_8 true))
  else (
  ex_9 ())
def hocketref4_SamePairs.L1 (K : Nat) (x0 : List api_Pair) (x1 : List api_Pair) (ex_9 : Unit → Option (Bool)) : Nat → Int → Option (Bool) :=
  iter fun again v => hocketref4_SamePairs.B1 K x0 x1 ex_9 again v
def hocketref4_SamePairs.f (K : Nat) (x0 : List api_Pair) (x1 : List api_Pair) : Option (Bool) :=
  if (x0.length : Int) = (x1.length : Int) then (
  hocketref4_SamePairs.L1 K x0 x1 (fun v => hocketref4_SamePairs.J1 K) K 0)
  else (
  some false)

def hocketref4_SameObjects.f (K : Nat) (x0 : api_Objects) (x1 : api_Objects) : Option (Bool) :=
  if x0.Reg = x1.Reg then (
  Option.bind (hocketref4_SameRows.f K x0.Queue x1.Queue) fun t_7 =>
  if t_7 = true then (
  Option.bind (hocketref1_SameInts.f K x0.Lock x1.Lock) fun t_12 =>
  if t_12 = true then (
  Option.bind (hocketref4_SamePairs.f K x0.Map x1.Map) fun t_17 =>
  some t_17)
  else (
  some false))
  else (
  some false))
  else (
  some false)

def hocketref4_SameResult.f (x0 : api_Result) (x1 : api_Result) : Option (Bool) :=
  if x0.Err = x1.Err then (
  if x0.Val = x1.Val then (
  some (x0.N == x1.N))
  else (
  some false))
  else (
  some false)

def hocketref4_SameTable.J1 (K : Nat) : Option (Bool) :=
  some true
def hocketref4_SameTable.J2 (K : Nat) (again_9 : Int → Option (Bool)) (x_8 : Int) (x_16 : Bool) : Option (Bool) :=
  if x_16 = true then (
  some false)
  else (
  again_9 (w64 (x_8 + 1)))
def hocketref4_SameTable.B1 (K : Nat) (x0 : List api_Last) (x1 : List api_Last) (ex_9 : Unit → Option (Bool)) (again_9 : Int → Option (Bool)) (x_8 : Int) : Option (Bool) :=
  if x_8 < (x0.length : Int) then (
  Option.bind (ix x0 x_8) fun t_21 =>
  Option.bind (ix x1 x_8) fun t_28 =>
  if t_21.Sess = t_28.Sess then (
  Option.bind (ix x0 x_8) fun t_36 =>
  Option.bind (ix x1 x_8) fun t_43 =>
  if t_36.Seq = t_43.Seq then (
  Option.bind (ix x0 x_8) fun t_51 =>
  Option.bind (ix x1 x_8) fun t_58 =>
  Option.bind (hocketref4_SameResult.f t_51.Result t_58.Result) fun t_65 =>
  hocketref4_SameTable.J2 K again_9 x_8 (!t_65))
  else (
  hocketref4_SameTable.J2 K again_9 x_8 true))
  else (
  hocketref4_SameTable.J2 K again_9 x_8 true))
  else (
  ex_9 ())
def hocketref4_SameTable.L1 (K : Nat) (x0 : List api_Last) (x1 : List api_Last) (ex_9 : Unit → Option (Bool)) : Nat → Int → Option (Bool) :=
  iter fun again v => hocketref4_SameTable.B1 K x0 x1 ex_9 again v
def hocketref4_SameTable.f (K : Nat) (x0 : List api_Last) (x1 : List api_Last) : Option (Bool) :=
  if (x0.length : Int) = (x1.length : Int) then (
  hocketref4_SameTable.L1 K x0 x1 (fun v => hocketref4_SameTable.J1 K) K 0)
  else (
  some false)

def hocketref4_Same.f (K : Nat) (x0 : api_Machine) (x1 : api_Machine) : Option (Bool) :=
  Option.bind (hocketref4_SameObjects.f K x0.Objects x1.Objects) fun t_6 =>
  if t_6 = true then (
  Option.bind (hocketref4_SameTable.f K x0.Table x1.Table) fun t_11 =>
  some t_11)
  else (
  some false)

def hocketref4_SameEntry.f (x0 : api_Entry) (x1 : api_Entry) : Option (Bool) :=
  if x0.Sess = x1.Sess then (
  if x0.Seq = x1.Seq then (
  if x0.Cmd.Kind = x1.Cmd.Kind then (
  if x0.Cmd.Who = x1.Cmd.Who then (
  if x0.Cmd.Key = x1.Cmd.Key then (
  if x0.Cmd.Val = x1.Cmd.Val then (
  some (x0.Cmd.Old == x1.Cmd.Old))
  else (
  some false))
  else (
  some false))
  else (
  some false))
  else (
  some false))
  else (
  some false))
  else (
  some false)

def hocketref4_SameEntries.J1 (K : Nat) : Option (Bool) :=
  some true
def hocketref4_SameEntries.B1 (K : Nat) (x0 : List api_Entry) (x1 : List api_Entry) (ex_9 : Unit → Option (Bool)) (again_9 : Int → Option (Bool)) (x_8 : Int) : Option (Bool) :=
  if x_8 < (x0.length : Int) then (
  Option.bind (ix x0 x_8) fun t_16 =>
  Option.bind (ix x1 x_8) fun t_27 =>
  Option.bind (hocketref4_SameEntry.f t_16 t_27) fun t_38 =>
  if t_38 = true then (
  again_9 (w64 (x_8 + 1)))
  else (
  some false))
  else (
  ex_9 ())
def hocketref4_SameEntries.L1 (K : Nat) (x0 : List api_Entry) (x1 : List api_Entry) (ex_9 : Unit → Option (Bool)) : Nat → Int → Option (Bool) :=
  iter fun again v => hocketref4_SameEntries.B1 K x0 x1 ex_9 again v
def hocketref4_SameEntries.f (K : Nat) (x0 : List api_Entry) (x1 : List api_Entry) : Option (Bool) :=
  if (x0.length : Int) = (x1.length : Int) then (
  hocketref4_SameEntries.L1 K x0 x1 (fun v => hocketref4_SameEntries.J1 K) K 0)
  else (
  some false)

def hocketref15_Same.f (K : Nat) (x0 : api_State) (x1 : api_State) : Option (Bool) :=
  if x0.At = x1.At then (
  Option.bind (hocketref4_Same.f K x0.Machine x1.Machine) fun t_7 =>
  if t_7 = true then (
  Option.bind (hocketref4_SameEntries.f K x0.Rest x1.Rest) fun t_12 =>
  some t_12)
  else (
  some false))
  else (
  some false)

def hocketref1_Num.J1 (K : Nat) (x_15 : Int) (x_16 : List UInt8) : Option ((List UInt8)) :=
  Option.bind (app 140737488355328 x_16 ([toU8 x_15] : List UInt8)) fun t_29 =>
  some t_29
def hocketref1_Num.B1 (K : Nat) (ex_42 : Int × (List UInt8) → Option ((List UInt8))) (again_42 : Int × (List UInt8) → Option ((List UInt8))) (x_36 : Int) (x_37 : List UInt8) : Option ((List UInt8)) :=
  if x_36 > 127 then (
  Option.bind (app 140737488355328 x_37 ([toU8 (bor .i64 (band .i64 x_36 127) 128)] : List UInt8)) fun t_52 =>
  again_42 (shr .i64 x_36 7, t_52))
  else (
  ex_42 (x_36, x_37))
def hocketref1_Num.L1 (K : Nat) (ex_42 : Int × (List UInt8) → Option ((List UInt8))) : Nat → Int × (List UInt8) → Option ((List UInt8)) :=
  iter fun again v => hocketref1_Num.B1 K ex_42 again v.1 v.2
def hocketref1_Num.f (K : Nat) (x0 : List UInt8) (x1 : Int) : Option ((List UInt8)) :=
  Option.bind (app 140737488355328 ([] : List UInt8) x0) fun t_7 =>
  hocketref1_Num.L1 K (fun v => hocketref1_Num.J1 K v.1 v.2) K (mn (mx x1 0) 4611686018427387904, t_7)

def hocketref1_Bytes.f (K : Nat) (x0 : List UInt8) (x1 : List UInt8) : Option ((List UInt8)) :=
  Option.bind (hocketref1_Num.f K x0 (x1.length : Int)) fun t_1 =>
  Option.bind (app 140737488355328 t_1 x1) fun t_9 =>
  some t_9

def hocketref4_Encode.J4 (K : Nat) (x_72 : List UInt8) : Option ((List UInt8)) :=
  some x_72
def hocketref4_Encode.B1 (K : Nat) (x0 : api_Machine) (ex_86 : (List UInt8) → Option ((List UInt8))) (again_86 : (List UInt8) × Int → Option ((List UInt8))) (x_80 : List UInt8) (x_85 : Int) : Option ((List UInt8)) :=
  if x_85 < (x0.Table.length : Int) then (
  Option.bind (ix x0.Table x_85) fun t_91 =>
  Option.bind (hocketref1_Num.f K x_80 t_91.Sess) fun t_103 =>
  Option.bind (hocketref1_Num.f K t_103 t_91.Seq) fun t_111 =>
  Option.bind (hocketref1_Num.f K t_111 t_91.Result.Err) fun t_120 =>
  Option.bind (hocketref1_Num.f K t_120 (w64 (t_91.Result.N + 1))) fun t_128 =>
  Option.bind (hocketref1_Bytes.f K t_128 t_91.Result.Val) fun t_136 =>
  again_86 (t_136, w64 (x_85 + 1)))
  else (
  ex_86 x_80)
def hocketref4_Encode.L1 (K : Nat) (x0 : api_Machine) (ex_86 : (List UInt8) → Option ((List UInt8))) : Nat → (List UInt8) × Int → Option ((List UInt8)) :=
  iter fun again v => hocketref4_Encode.B1 K x0 ex_86 again v.1 v.2
def hocketref4_Encode.J3 (K : Nat) (x0 : api_Machine) (x_55 : List UInt8) : Option ((List UInt8)) :=
  Option.bind (hocketref1_Num.f K x_55 (x0.Table.length : Int)) fun t_62 =>
  hocketref4_Encode.L1 K x0 (fun v => hocketref4_Encode.J4 K v) K (t_62, 0)
def hocketref4_Encode.B2 (K : Nat) (x0 : api_Machine) (ex_151 : (List UInt8) → Option ((List UInt8))) (again_151 : (List UInt8) × Int → Option ((List UInt8))) (x_145 : List UInt8) (x_150 : Int) : Option ((List UInt8)) :=
  if x_150 < (x0.Objects.Map.length : Int) then (
  Option.bind (ix x0.Objects.Map x_150) fun t_157 =>
  Option.bind (ix x0.Objects.Map x_150) fun t_166 =>
  Option.bind (hocketref1_Bytes.f K x_145 t_157.Key) fun t_175 =>
  Option.bind (hocketref1_Bytes.f K t_175 t_166.Val) fun t_183 =>
  again_151 (t_183, w64 (x_150 + 1)))
  else (
  ex_151 x_145)
def hocketref4_Encode.L2 (K : Nat) (x0 : api_Machine) (ex_151 : (List UInt8) → Option ((List UInt8))) : Nat → (List UInt8) × Int → Option ((List UInt8)) :=
  iter fun again v => hocketref4_Encode.B2 K x0 ex_151 again v.1 v.2
def hocketref4_Encode.J2 (K : Nat) (x0 : api_Machine) (x_38 : List UInt8) : Option ((List UInt8)) :=
  Option.bind (hocketref1_Num.f K x_38 (x0.Objects.Map.length : Int)) fun t_45 =>
  hocketref4_Encode.L2 K x0 (fun v => hocketref4_Encode.J3 K x0 v) K (t_45, 0)
def hocketref4_Encode.B3 (K : Nat) (x0 : api_Machine) (ex_198 : (List UInt8) → Option ((List UInt8))) (again_198 : (List UInt8) × Int → Option ((List UInt8))) (x_192 : List UInt8) (x_197 : Int) : Option ((List UInt8)) :=
  if x_197 < (x0.Objects.Lock.length : Int) then (
  Option.bind (ix x0.Objects.Lock x_197) fun t_202 =>
  Option.bind (hocketref1_Num.f K x_192 t_202) fun t_207 =>
  again_198 (t_207, w64 (x_197 + 1)))
  else (
  ex_198 x_192)
def hocketref4_Encode.L3 (K : Nat) (x0 : api_Machine) (ex_198 : (List UInt8) → Option ((List UInt8))) : Nat → (List UInt8) × Int → Option ((List UInt8)) :=
  iter fun again v => hocketref4_Encode.B3 K x0 ex_198 again v.1 v.2
def hocketref4_Encode.J1 (K : Nat) (x0 : api_Machine) (x_21 : List UInt8) : Option ((List UInt8)) :=
  Option.bind (hocketref1_Num.f K x_21 (x0.Objects.Lock.length : Int)) fun t_28 =>
  hocketref4_Encode.L3 K x0 (fun v => hocketref4_Encode.J2 K x0 v) K (t_28, 0)
def hocketref4_Encode.B4 (K : Nat) (x0 : api_Machine) (ex_222 : (List UInt8) → Option ((List UInt8))) (again_222 : (List UInt8) × Int → Option ((List UInt8))) (x_216 : List UInt8) (x_221 : Int) : Option ((List UInt8)) :=
  if x_221 < (x0.Objects.Queue.length : Int) then (
  Option.bind (ix x0.Objects.Queue x_221) fun t_226 =>
  Option.bind (hocketref1_Bytes.f K x_216 t_226) fun t_233 =>
  again_222 (t_233, w64 (x_221 + 1)))
  else (
  ex_222 x_216)
def hocketref4_Encode.L4 (K : Nat) (x0 : api_Machine) (ex_222 : (List UInt8) → Option ((List UInt8))) : Nat → (List UInt8) × Int → Option ((List UInt8)) :=
  iter fun again v => hocketref4_Encode.B4 K x0 ex_222 again v.1 v.2
def hocketref4_Encode.f (K : Nat) (x0 : api_Machine) : Option ((List UInt8)) :=
  Option.bind (hocketref1_Bytes.f K ([] : List UInt8) x0.Objects.Reg) fun t_3 =>
  Option.bind (hocketref1_Num.f K t_3 (x0.Objects.Queue.length : Int)) fun t_11 =>
  hocketref4_Encode.L4 K x0 (fun v => hocketref4_Encode.J1 K x0 v) K (t_11, 0)

def hocketref4_PutEntry.f (K : Nat) (x0 : List UInt8) (x1 : api_Entry) : Option ((List UInt8)) :=
  Option.bind (hocketref1_Num.f K x0 x1.Sess) fun t_5 =>
  Option.bind (hocketref1_Num.f K t_5 x1.Seq) fun t_13 =>
  Option.bind (hocketref1_Num.f K t_13 x1.Cmd.Kind) fun t_21 =>
  Option.bind (hocketref1_Num.f K t_21 x1.Cmd.Who) fun t_29 =>
  Option.bind (hocketref1_Bytes.f K t_29 x1.Cmd.Key) fun t_39 =>
  Option.bind (hocketref1_Bytes.f K t_39 x1.Cmd.Val) fun t_47 =>
  Option.bind (hocketref1_Bytes.f K t_47 x1.Cmd.Old) fun t_55 =>
  some t_55

def hocketref15_Encode.J1 (K : Nat) (x_39 : List UInt8) : Option ((List UInt8)) :=
  Option.bind (hocketref1_Four.f K x_39) fun t_46 =>
  some t_46
def hocketref15_Encode.B1 (K : Nat) (x0 : api_State) (ex_61 : (List UInt8) → Option ((List UInt8))) (again_61 : (List UInt8) × Int → Option ((List UInt8))) (x_55 : List UInt8) (x_60 : Int) : Option ((List UInt8)) :=
  if x_60 < (x0.Rest.length : Int) then (
  Option.bind (ix x0.Rest x_60) fun t_65 =>
  Option.bind (hocketref4_PutEntry.f K x_55 t_65) fun t_76 =>
  again_61 (t_76, w64 (x_60 + 1)))
  else (
  ex_61 x_55)
def hocketref15_Encode.L1 (K : Nat) (x0 : api_State) (ex_61 : (List UInt8) → Option ((List UInt8))) : Nat → (List UInt8) × Int → Option ((List UInt8)) :=
  iter fun again v => hocketref15_Encode.B1 K x0 ex_61 again v.1 v.2
def hocketref15_Encode.f (K : Nat) (x0 : api_State) : Option ((List UInt8)) :=
  Option.bind (hocketref1_Num.f K ([] : List UInt8) x0.At) fun t_5 =>
  Option.bind (hocketref4_Encode.f K x0.Machine) fun t_13 =>
  Option.bind (hocketref1_Bytes.f K t_5 t_13) fun t_21 =>
  Option.bind (hocketref1_Num.f K t_21 (x0.Rest.length : Int)) fun t_29 =>
  hocketref15_Encode.L1 K x0 (fun v => hocketref15_Encode.J1 K v) K (t_29, 0)

def hocketlaw7_Keys.f (x0 : Int) : Option ((List UInt8)) :=
  Option.bind (ix ([([] : List UInt8), ([97] : List UInt8), ([98] : List UInt8), ([99] : List UInt8), ([97, 98] : List UInt8), ([97, 98, 99] : List UInt8), ([122] : List UInt8), ([0] : List UInt8), ([255] : List UInt8), ([97, 98, 99, 100, 101, 102, 103, 104] : List UInt8), ([97, 98, 99, 100, 101, 102, 103, 104, 105] : List UInt8), ([107, 49] : List UInt8), ([107, 50] : List UInt8), ([107, 51] : List UInt8), ([107, 52] : List UInt8), ([107, 53] : List UInt8)] : List (List UInt8)) (band .i64 x0 15)) fun t_7 =>
  Option.bind (must (t_7.length ≤ 9223372036854775807)) fun u_12 =>
  some t_7

def hocketlaw8_Cmd.J2 (x0 : Int) (t_25 : (List UInt8)) (t_9 : List UInt8) (t_45 : List UInt8) (x_156 : Int) : Option (api_Cmd) :=
  if (band .i64 (shr .i64 x0 19) 31) = 0 then (
  some (⟨band .i64 (shr .i64 x0 24) 31, w64 ((band .i64 (shr .i64 x0 17) 2047) - 20), t_25, t_9, t_45⟩ : api_Cmd))
  else (
  some (⟨x_156, band .i64 (shr .i64 x0 8) 7, t_25, t_9, t_45⟩ : api_Cmd))
def hocketlaw8_Cmd.J1 (x0 : Int) (t_25 : (List UInt8)) (t_9 : List UInt8) (t_45 : List UInt8) (x_152 : Bool) : Option (api_Cmd) :=
  if x_152 = true then (
  Option.bind (ix ([1, 2, 4, 9] : List Int) (band .i64 (shr .i64 x0 17) 3)) fun t_172 =>
  hocketlaw8_Cmd.J2 x0 t_25 t_9 t_45 t_172)
  else (
  hocketlaw8_Cmd.J2 x0 t_25 t_9 t_45 (w64 ((Int.tmod (band .i64 x0 31) 13) + 0)))
def hocketlaw8_Cmd.f (x0 : Int) : Option (api_Cmd) :=
  Option.bind (ix ([([] : List UInt8), ([97] : List UInt8), ([98] : List UInt8), ([97, 98] : List UInt8), ([118, 97, 108, 117, 101] : List UInt8), ([48, 49, 50, 51, 52, 53, 54, 55, 56, 57, 97, 98, 99, 100, 101, 102] : List UInt8), ([48, 49, 50, 51, 52, 53, 54, 55, 56, 57, 97, 98, 99, 100, 101, 102, 103] : List UInt8), ([0, 255] : List UInt8)] : List (List UInt8)) (band .i64 (shr .i64 x0 5) 7)) fun t_9 =>
  Option.bind (must (t_9.length ≤ 9223372036854775807)) fun u_14 =>
  Option.bind (hocketlaw7_Keys.f (shr .i64 x0 11)) fun t_25 =>
  Option.bind (ix ([([] : List UInt8), ([97] : List UInt8), ([98] : List UInt8), ([97, 98] : List UInt8)] : List (List UInt8)) (band .i64 (shr .i64 x0 15) 3)) fun t_45 =>
  Option.bind (must (t_45.length ≤ 9223372036854775807)) fun u_57 =>
  if (w64 ((Int.tmod (band .i64 x0 31) 13) + 0)) = 0 then (
  hocketlaw8_Cmd.J1 x0 t_25 t_9 t_45 true)
  else (
  hocketlaw8_Cmd.J1 x0 t_25 t_9 t_45 ((w64 ((Int.tmod (band .i64 x0 31) 13) + 0)) == 12))

def hocketlaw10_Entry.f (x0 : Int) (x1 : Int) : Option (api_Entry) :=
  Option.bind (hocketlaw8_Cmd.f x0) fun t_3 =>
  some (⟨w64 ((Int.tmod (band .i64 (shr .i64 x0 25) 7) 6) + 1), w64 ((w64 ((w64 (Int.tdiv x1 3)) + (band .i64 (shr .i64 x0 28) 1))) + 1), t_3⟩ : api_Entry)

def hocketref4_named.f (x0 : Int) (x1 : Int) : Option (Bool) :=
  if x0 ≥ 1 then (
  if x1 ≥ 1 then (
  if x0 ≤ 1073741824 then (
  some (decide (x1 ≤ 1073741824)))
  else (
  some false))
  else (
  some false))
  else (
  some false)

def hocketref4_bad.f (x0 : Int) : Option (api_Result) :=
  some (⟨x0, ([] : List UInt8), 0⟩ : api_Result)

def hocketref4_at.J1 (K : Nat) (x_3 : Int) : Option (Int) :=
  some x_3
def hocketref4_at.B1 (K : Nat) (x0 : List api_Last) (x1 : Int) (ex_8 : Int → Option (Int)) (again_8 : Int → Option (Int)) (x_7 : Int) : Option (Int) :=
  if x_7 < (x0.length : Int) then (
  Option.bind (ix x0 x_7) fun t_13 =>
  if t_13.Sess < x1 then (
  again_8 (w64 (x_7 + 1)))
  else (
  ex_8 x_7))
  else (
  ex_8 x_7)
def hocketref4_at.L1 (K : Nat) (x0 : List api_Last) (x1 : Int) (ex_8 : Int → Option (Int)) : Nat → Int → Option (Int) :=
  iter fun again v => hocketref4_at.B1 K x0 x1 ex_8 again v
def hocketref4_at.f (K : Nat) (x0 : List api_Last) (x1 : Int) : Option (Int) :=
  hocketref4_at.L1 K x0 x1 (fun v => hocketref4_at.J1 K v) K 0

def hocketref4_own.f (x0 : List UInt8) : Option ((List UInt8)) :=
  Option.bind (app 140737488355328 ([] : List UInt8) x0) fun t_7 =>
  some t_7

def hocketref4_result.f (x0 : api_Result) : Option (api_Result) :=
  Option.bind (hocketref4_own.f x0.Val) fun t_5 =>
  some (⟨x0.Err, t_5, x0.N⟩ : api_Result)

def hocketref4_Look.J1 (K : Nat) (x0 : List api_Last) (t_9 : Int) (x2 : Int) (x_16 : Bool) : Option (api_Result × Int) :=
  if x_16 = true then (
  if (x0.length : Int) ≥ 8 then (
  Option.bind (hocketref4_bad.f 9) fun t_22 =>
  some (t_22, 2))
  else (
  some ((⟨0, ([] : List UInt8), 0⟩ : api_Result), 0)))
  else (
  Option.bind (ix x0 t_9) fun t_34 =>
  if x2 < t_34.Seq then (
  Option.bind (hocketref4_bad.f 8) fun t_42 =>
  some (t_42, 2))
  else (
  Option.bind (ix x0 t_9) fun t_51 =>
  if x2 = t_51.Seq then (
  Option.bind (ix x0 t_9) fun t_59 =>
  Option.bind (hocketref4_result.f t_59.Result) fun t_66 =>
  some (t_66, 1))
  else (
  some ((⟨0, ([] : List UInt8), 0⟩ : api_Result), 0))))
def hocketref4_Look.f (K : Nat) (x0 : List api_Last) (x1 : Int) (x2 : Int) : Option (api_Result × Int) :=
  Option.bind (hocketref4_named.f x1 x2) fun t_4 =>
  if t_4 = true then (
  Option.bind (hocketref4_at.f K x0 x1) fun t_9 =>
  if t_9 = (x0.length : Int) then (
  hocketref4_Look.J1 K x0 t_9 x2 true)
  else (
  Option.bind (ix x0 t_9) fun t_78 =>
  hocketref4_Look.J1 K x0 t_9 x2 (t_78.Sess != x1)))
  else (
  Option.bind (hocketref4_bad.f 10) fun t_85 =>
  some (t_85, 2))

def hocketref4_rows.J1 (K : Nat) (x_3 : List (List UInt8)) : Option ((List (List UInt8))) :=
  some x_3
def hocketref4_rows.B1 (K : Nat) (x0 : List (List UInt8)) (ex_17 : (List (List UInt8)) → Option ((List (List UInt8)))) (again_17 : (List (List UInt8)) × Int → Option ((List (List UInt8)))) (x_11 : List (List UInt8)) (x_16 : Int) : Option ((List (List UInt8))) :=
  if x_16 < (x0.length : Int) then (
  Option.bind (ix x0 x_16) fun t_22 =>
  Option.bind (hocketref4_own.f t_22) fun t_29 =>
  Option.bind (app 5864062014805 x_11 ([t_29] : List (List UInt8))) fun t_44 =>
  again_17 (t_44, w64 (x_16 + 1)))
  else (
  ex_17 x_11)
def hocketref4_rows.L1 (K : Nat) (x0 : List (List UInt8)) (ex_17 : (List (List UInt8)) → Option ((List (List UInt8)))) : Nat → (List (List UInt8)) × Int → Option ((List (List UInt8))) :=
  iter fun again v => hocketref4_rows.B1 K x0 ex_17 again v.1 v.2
def hocketref4_rows.f (K : Nat) (x0 : List (List UInt8)) : Option ((List (List UInt8))) :=
  hocketref4_rows.L1 K x0 (fun v => hocketref4_rows.J1 K v) K (([] : List (List UInt8)), 0)

def hocketref4_pairs.J1 (K : Nat) (x_3 : List api_Pair) : Option ((List api_Pair)) :=
  some x_3
def hocketref4_pairs.B1 (K : Nat) (x0 : List api_Pair) (ex_17 : (List api_Pair) → Option ((List api_Pair))) (again_17 : (List api_Pair) × Int → Option ((List api_Pair))) (x_11 : List api_Pair) (x_16 : Int) : Option ((List api_Pair)) :=
  if x_16 < (x0.length : Int) then (
  Option.bind (ix x0 x_16) fun t_24 =>
  Option.bind (ix x0 x_16) fun t_33 =>
  Option.bind (hocketref4_own.f t_24.Key) fun t_42 =>
  Option.bind (hocketref4_own.f t_33.Val) fun t_50 =>
  Option.bind (app 2932031007402 x_11 ([(⟨t_42, t_50⟩ : api_Pair)] : List api_Pair)) fun t_66 =>
  again_17 (t_66, w64 (x_16 + 1)))
  else (
  ex_17 x_11)
def hocketref4_pairs.L1 (K : Nat) (x0 : List api_Pair) (ex_17 : (List api_Pair) → Option ((List api_Pair))) : Nat → (List api_Pair) × Int → Option ((List api_Pair)) :=
  iter fun again v => hocketref4_pairs.B1 K x0 ex_17 again v.1 v.2
def hocketref4_pairs.f (K : Nat) (x0 : List api_Pair) : Option ((List api_Pair)) :=
  hocketref4_pairs.L1 K x0 (fun v => hocketref4_pairs.J1 K v) K (([] : List api_Pair), 0)

def hocketref4_Read.f (x0 : List UInt8) : Option (api_Result) :=
  Option.bind (hocketref4_own.f x0) fun t_3 =>
  some (⟨0, t_3, 0⟩ : api_Result)

def hocketref4_Write.f (x0 : List UInt8) (x1 : List UInt8) : Option ((List UInt8) × api_Result) :=
  if (x1.length : Int) > 16 then (
  Option.bind (hocketref4_own.f x0) fun t_5 =>
  Option.bind (hocketref4_bad.f 1) fun t_13 =>
  some (t_5, t_13))
  else (
  Option.bind (hocketref4_own.f x1) fun t_22 =>
  some (t_22, (⟨0, ([] : List UInt8), 0⟩ : api_Result)))

def hocketref4_Cas.f (x0 : List UInt8) (x1 : List UInt8) (x2 : List UInt8) : Option ((List UInt8) × api_Result) :=
  if (x2.length : Int) > 16 then (
  Option.bind (hocketref4_own.f x0) fun t_5 =>
  Option.bind (hocketref4_bad.f 1) fun t_13 =>
  some (t_5, t_13))
  else (
  if x0 = x1 then (
  Option.bind (hocketref4_own.f x2) fun t_24 =>
  some (t_24, (⟨0, ([] : List UInt8), 0⟩ : api_Result)))
  else (
  Option.bind (hocketref4_own.f x0) fun t_34 =>
  Option.bind (hocketref4_own.f x0) fun t_42 =>
  some (t_34, (⟨2, t_42, 0⟩ : api_Result))))

def hocketref4_Push.f (K : Nat) (x0 : List (List UInt8)) (x1 : List UInt8) : Option ((List (List UInt8)) × api_Result) :=
  if (x1.length : Int) > 16 then (
  Option.bind (hocketref4_rows.f K x0) fun t_5 =>
  Option.bind (hocketref4_bad.f 1) fun t_13 =>
  some (t_5, t_13))
  else (
  if (x0.length : Int) ≥ 8 then (
  Option.bind (hocketref4_rows.f K x0) fun t_24 =>
  Option.bind (hocketref4_bad.f 3) fun t_32 =>
  some (t_24, t_32))
  else (
  Option.bind (hocketref4_rows.f K x0) fun t_41 =>
  Option.bind (hocketref4_own.f x1) fun t_49 =>
  Option.bind (app 5864062014805 t_41 ([t_49] : List (List UInt8))) fun t_64 =>
  some (t_64, (⟨0, ([] : List UInt8), w64 ((x0.length : Int) + 1)⟩ : api_Result))))

def hocketref4_Pop.f (K : Nat) (x0 : List (List UInt8)) : Option ((List (List UInt8)) × api_Result) :=
  if (x0.length : Int) = 0 then (
  Option.bind (hocketref4_bad.f 4) fun t_5 =>
  some (([] : List (List UInt8)), t_5))
  else (
  Option.bind (cut x0 1 (x0.length : Int)) fun t_17 =>
  Option.bind (ix x0 0) fun t_20 =>
  Option.bind (hocketref4_rows.f K t_17) fun t_27 =>
  Option.bind (hocketref4_own.f t_20) fun t_35 =>
  some (t_27, (⟨0, t_35, 0⟩ : api_Result)))

def hocketref4_place.J1 (K : Nat) : Option (Int) :=
  some (-1)
def hocketref4_place.B1 (K : Nat) (x0 : List Int) (x1 : Int) (ex_7 : Unit → Option (Int)) (again_7 : Int → Option (Int)) (x_6 : Int) : Option (Int) :=
  if x_6 < (x0.length : Int) then (
  Option.bind (ix x0 x_6) fun t_12 =>
  if t_12 = x1 then (
  some x_6)
  else (
  again_7 (w64 (x_6 + 1))))
  else (
  ex_7 ())
def hocketref4_place.L1 (K : Nat) (x0 : List Int) (x1 : Int) (ex_7 : Unit → Option (Int)) : Nat → Int → Option (Int) :=
  iter fun again v => hocketref4_place.B1 K x0 x1 ex_7 again v
def hocketref4_place.f (K : Nat) (x0 : List Int) (x1 : Int) : Option (Int) :=
  hocketref4_place.L1 K x0 x1 (fun v => hocketref4_place.J1 K) K 0

def hocketref4_Take.f (K : Nat) (x0 : List Int) (x1 : Int) : Option ((List Int) × api_Result) :=
  Option.bind (app 17592186044416 ([] : List Int) x0) fun t_9 =>
  Option.bind (hocketref4_place.f K x0 x1) fun t_16 =>
  if t_16 ≥ 0 then (
  Option.bind (hocketref4_bad.f 6) fun t_21 =>
  some (t_9, t_21))
  else (
  if (x0.length : Int) ≥ 5 then (
  Option.bind (hocketref4_bad.f 3) fun t_32 =>
  some (t_9, t_32))
  else (
  Option.bind (app 17592186044416 t_9 ([x1] : List Int)) fun t_47 =>
  some (t_47, (⟨0, ([] : List UInt8), (x0.length : Int)⟩ : api_Result))))

def hocketref4_Free.f (K : Nat) (x0 : List Int) (x1 : Int) : Option ((List Int) × api_Result) :=
  Option.bind (hocketref4_place.f K x0 x1) fun t_3 =>
  if t_3 < 0 then (
  Option.bind (app 17592186044416 ([] : List Int) x0) fun t_15 =>
  Option.bind (hocketref4_bad.f 5) fun t_21 =>
  some (t_15, t_21))
  else (
  Option.bind (cut x0 0 t_3) fun t_32 =>
  Option.bind (cut x0 (w64 (t_3 + 1)) (x0.length : Int)) fun t_35 =>
  Option.bind (app 17592186044416 ([] : List Int) t_32) fun t_44 =>
  Option.bind (app 17592186044416 t_44 t_35) fun t_50 =>
  if (t_50.length : Int) = 0 then (
  some (([] : List Int), (⟨0, ([] : List UInt8), (-1)⟩ : api_Result)))
  else (
  Option.bind (ix t_50 0) fun t_63 =>
  some (t_50, (⟨0, ([] : List UInt8), t_63⟩ : api_Result))))

def hocketref4_Owner.f (x0 : List Int) : Option (api_Result) :=
  if (x0.length : Int) = 0 then (
  Option.bind (hocketref4_bad.f 5) fun t_5 =>
  some t_5)
  else (
  Option.bind (ix x0 0) fun t_14 =>
  some (⟨0, ([] : List UInt8), t_14⟩ : api_Result))

def hocketref4_key.J1 (K : Nat) : Option (Int) :=
  some (-1)
def hocketref4_key.B1 (K : Nat) (x0 : List api_Pair) (x1 : List UInt8) (ex_7 : Unit → Option (Int)) (again_7 : Int → Option (Int)) (x_6 : Int) : Option (Int) :=
  if x_6 < (x0.length : Int) then (
  Option.bind (ix x0 x_6) fun t_14 =>
  if t_14.Key = x1 then (
  some x_6)
  else (
  again_7 (w64 (x_6 + 1))))
  else (
  ex_7 ())
def hocketref4_key.L1 (K : Nat) (x0 : List api_Pair) (x1 : List UInt8) (ex_7 : Unit → Option (Int)) : Nat → Int → Option (Int) :=
  iter fun again v => hocketref4_key.B1 K x0 x1 ex_7 again v
def hocketref4_key.f (K : Nat) (x0 : List api_Pair) (x1 : List UInt8) : Option (Int) :=
  hocketref4_key.L1 K x0 x1 (fun v => hocketref4_key.J1 K) K 0

def hocketref4_Put.J2 (K : Nat) (x1 : List UInt8) (x2 : List UInt8) (x0 : List api_Pair) (x_90 : List api_Pair) (x_95 : Int) : Option ((List api_Pair) × api_Result) :=
  Option.bind (hocketref4_own.f x1) fun t_98 =>
  Option.bind (hocketref4_own.f x2) fun t_106 =>
  Option.bind (ix x_90 x_95) fun t_114 =>
  some ((x_90.set (x_95).toNat (⟨t_98, t_106⟩ : api_Pair)), (⟨0, ([] : List UInt8), w64 ((x0.length : Int) + 1)⟩ : api_Result))
def hocketref4_Put.J3 (K : Nat) (x_129 : List api_Pair) (x_134 : Int) (again_135 : (List api_Pair) × Int → Option ((List api_Pair) × api_Result)) (ex_135 : (List api_Pair) × Int → Option ((List api_Pair) × api_Result)) (x_140 : Bool) : Option ((List api_Pair) × api_Result) :=
  if x_140 = true then (
  Option.bind (ix x_129 (w64 (x_134 - 1))) fun t_144 =>
  Option.bind (ix x_129 x_134) fun t_153 =>
  again_135 ((x_129.set (x_134).toNat t_144), w64 (x_134 - 1)))
  else (
  ex_135 (x_129, x_134))
def hocketref4_Put.B1 (K : Nat) (x1 : List UInt8) (ex_135 : (List api_Pair) × Int → Option ((List api_Pair) × api_Result)) (again_135 : (List api_Pair) × Int → Option ((List api_Pair) × api_Result)) (x_129 : List api_Pair) (x_134 : Int) : Option ((List api_Pair) × api_Result) :=
  if x_134 > 0 then (
  Option.bind (ix x_129 (w64 (x_134 - 1))) fun t_166 =>
  hocketref4_Put.J3 K x_129 x_134 again_135 ex_135 (slt x1 t_166.Key))
  else (
  hocketref4_Put.J3 K x_129 x_134 again_135 ex_135 false)
def hocketref4_Put.L1 (K : Nat) (x1 : List UInt8) (ex_135 : (List api_Pair) × Int → Option ((List api_Pair) × api_Result)) : Nat → (List api_Pair) × Int → Option ((List api_Pair) × api_Result) :=
  iter fun again v => hocketref4_Put.B1 K x1 ex_135 again v.1 v.2
def hocketref4_Put.J1 (K : Nat) (t_3 : (List api_Pair)) (x0 : List api_Pair) (x1 : List UInt8) (x2 : List UInt8) (x_14 : Bool) : Option ((List api_Pair) × api_Result) :=
  if x_14 = true then (
  Option.bind (hocketref4_bad.f 1) fun t_18 =>
  some (t_3, t_18))
  else (
  Option.bind (hocketref4_key.f K x0 x1) fun t_29 =>
  if t_29 ≥ 0 then (
  Option.bind (ix t_3 t_29) fun t_34 =>
  Option.bind (hocketref4_own.f x2) fun t_43 =>
  Option.bind (ix t_3 t_29) fun t_51 =>
  some ((t_3.set (t_29).toNat (⟨t_51.Key, t_43⟩ : api_Pair)), (⟨0, t_34.Val, (x0.length : Int)⟩ : api_Result)))
  else (
  if (x0.length : Int) ≥ 8 then (
  Option.bind (hocketref4_bad.f 3) fun t_66 =>
  some (t_3, t_66))
  else (
  Option.bind (app 2932031007402 t_3 ([(⟨([] : List UInt8), ([] : List UInt8)⟩ : api_Pair)] : List api_Pair)) fun t_82 =>
  hocketref4_Put.L1 K x1 (fun v => hocketref4_Put.J2 K x1 x2 x0 v.1 v.2) K (t_82, (t_3.length : Int)))))
def hocketref4_Put.f (K : Nat) (x0 : List api_Pair) (x1 : List UInt8) (x2 : List UInt8) : Option ((List api_Pair) × api_Result) :=
  Option.bind (hocketref4_pairs.f K x0) fun t_3 =>
  if (x1.length : Int) > 8 then (
  hocketref4_Put.J1 K t_3 x0 x1 x2 true)
  else (
  hocketref4_Put.J1 K t_3 x0 x1 x2 (decide ((x2.length : Int) > 16)))

def hocketref4_Get.f (K : Nat) (x0 : List api_Pair) (x1 : List UInt8) : Option (api_Result) :=
  Option.bind (hocketref4_key.f K x0 x1) fun t_4 =>
  if t_4 ≥ 0 then (
  Option.bind (ix x0 t_4) fun t_9 =>
  Option.bind (hocketref4_own.f t_9.Val) fun t_18 =>
  some (⟨0, t_18, 0⟩ : api_Result))
  else (
  Option.bind (hocketref4_bad.f 5) fun t_27 =>
  some t_27)

def hocketref4_Del.f (K : Nat) (x0 : List api_Pair) (x1 : List UInt8) : Option ((List api_Pair) × api_Result) :=
  Option.bind (hocketref4_pairs.f K x0) fun t_3 =>
  Option.bind (hocketref4_key.f K x0 x1) fun t_11 =>
  if t_11 < 0 then (
  Option.bind (hocketref4_bad.f 5) fun t_17 =>
  some (t_3, t_17))
  else (
  Option.bind (ix t_3 t_11) fun t_27 =>
  Option.bind (must ((0 : Int) ≤ 0 ∧ 0 ≤ t_11 ∧ t_11 ≤ (t_3.length : Int))) fun u_38 =>
  Option.bind (must (0 ≤ (w64 (t_11 + 1)) ∧ (w64 (t_11 + 1)) ≤ (t_3.length : Int) ∧ (t_3.length : Int) ≤ (t_3.length : Int))) fun u_41 =>
  Option.bind (must (t_11 ≤ (w64 (t_11 + 1)))) fun u_44 =>
  some ((t_3.take (t_11).toNat ++ t_3.drop ((w64 (t_11 + 1))).toNat), (⟨0, t_27.Val, 0⟩ : api_Result)))

def hocketref4_Apply.J2 (K : Nat) (x_191 : api_Objects) (x_208 : api_Result) : Option (api_Objects × api_Result) :=
  some (x_191, x_208)
def hocketref4_Apply.J1 (K : Nat) (x1 : api_Cmd) (t_17 : (List UInt8)) (t_31 : (List (List UInt8))) (t_56 : List Int) (t_67 : (List api_Pair)) (t_173 : api_Result) (x_186 : Bool) : Option (api_Objects × api_Result) :=
  if x1.Kind = 1 then (
  Option.bind (hocketref4_Read.f t_17) fun t_218 =>
  hocketref4_Apply.J2 K (⟨t_17, t_31, t_56, t_67⟩ : api_Objects) t_218)
  else (
  if x1.Kind = 2 then (
  Option.bind (hocketref4_Write.f t_17 x1.Val) fun t_229 =>
  hocketref4_Apply.J2 K (⟨t_229.1, t_31, t_56, t_67⟩ : api_Objects) t_229.2)
  else (
  if x1.Kind = 3 then (
  Option.bind (hocketref4_Cas.f t_17 x1.Old x1.Val) fun t_245 =>
  hocketref4_Apply.J2 K (⟨t_245.1, t_31, t_56, t_67⟩ : api_Objects) t_245.2)
  else (
  if x1.Kind = 4 then (
  Option.bind (hocketref4_Push.f K t_31 x1.Val) fun t_261 =>
  hocketref4_Apply.J2 K (⟨t_17, t_261.1, t_56, t_67⟩ : api_Objects) t_261.2)
  else (
  if x1.Kind = 5 then (
  Option.bind (hocketref4_Pop.f K t_31) fun t_277 =>
  hocketref4_Apply.J2 K (⟨t_17, t_277.1, t_56, t_67⟩ : api_Objects) t_277.2)
  else (
  if x1.Kind = 6 then (
  if x_186 = true then (
  Option.bind (hocketref4_Take.f K t_56 x1.Who) fun t_294 =>
  hocketref4_Apply.J2 K (⟨t_17, t_31, t_294.1, t_67⟩ : api_Objects) t_294.2)
  else (
  hocketref4_Apply.J2 K (⟨t_17, t_31, t_56, t_67⟩ : api_Objects) t_173))
  else (
  if x1.Kind = 7 then (
  if x_186 = true then (
  Option.bind (hocketref4_Free.f K t_56 x1.Who) fun t_312 =>
  hocketref4_Apply.J2 K (⟨t_17, t_31, t_312.1, t_67⟩ : api_Objects) t_312.2)
  else (
  hocketref4_Apply.J2 K (⟨t_17, t_31, t_56, t_67⟩ : api_Objects) t_173))
  else (
  if x1.Kind = 8 then (
  Option.bind (hocketref4_Owner.f t_56) fun t_329 =>
  hocketref4_Apply.J2 K (⟨t_17, t_31, t_56, t_67⟩ : api_Objects) t_329)
  else (
  if x1.Kind = 9 then (
  Option.bind (hocketref4_Put.f K t_67 x1.Key x1.Val) fun t_340 =>
  hocketref4_Apply.J2 K (⟨t_17, t_31, t_56, t_340.1⟩ : api_Objects) t_340.2)
  else (
  if x1.Kind = 10 then (
  Option.bind (hocketref4_Get.f K t_67 x1.Key) fun t_353 =>
  hocketref4_Apply.J2 K (⟨t_17, t_31, t_56, t_67⟩ : api_Objects) t_353)
  else (
  if x1.Kind = 11 then (
  Option.bind (hocketref4_Del.f K t_67 x1.Key) fun t_364 =>
  hocketref4_Apply.J2 K (⟨t_17, t_31, t_56, t_364.1⟩ : api_Objects) t_364.2)
  else (
  hocketref4_Apply.J2 K (⟨t_17, t_31, t_56, t_67⟩ : api_Objects) t_173)))))))))))
def hocketref4_Apply.f (K : Nat) (x0 : api_Objects) (x1 : api_Cmd) : Option (api_Objects × api_Result) :=
  Option.bind (hocketref4_own.f x0.Reg) fun t_17 =>
  Option.bind (hocketref4_rows.f K x0.Queue) fun t_31 =>
  Option.bind (app 17592186044416 ([] : List Int) x0.Lock) fun t_56 =>
  Option.bind (hocketref4_pairs.f K x0.Map) fun t_67 =>
  Option.bind (hocketref4_bad.f 7) fun t_173 =>
  if x1.Who ≥ 0 then (
  hocketref4_Apply.J1 K x1 t_17 t_31 t_56 t_67 t_173 (decide (x1.Who ≤ 999)))
  else (
  hocketref4_Apply.J1 K x1 t_17 t_31 t_56 t_67 t_173 false)

def hocketref4_table.J1 (K : Nat) (x_3 : List api_Last) : Option ((List api_Last)) :=
  some x_3
def hocketref4_table.B1 (K : Nat) (x0 : List api_Last) (ex_17 : (List api_Last) → Option ((List api_Last))) (again_17 : (List api_Last) × Int → Option ((List api_Last))) (x_11 : List api_Last) (x_16 : Int) : Option ((List api_Last)) :=
  if x_16 < (x0.length : Int) then (
  Option.bind (ix x0 x_16) fun t_24 =>
  Option.bind (ix x0 x_16) fun t_31 =>
  Option.bind (ix x0 x_16) fun t_38 =>
  Option.bind (hocketref4_result.f t_38.Result) fun t_45 =>
  Option.bind (app 2513169434916 x_11 ([(⟨t_24.Sess, t_31.Seq, t_45⟩ : api_Last)] : List api_Last)) fun t_60 =>
  again_17 (t_60, w64 (x_16 + 1)))
  else (
  ex_17 x_11)
def hocketref4_table.L1 (K : Nat) (x0 : List api_Last) (ex_17 : (List api_Last) → Option ((List api_Last))) : Nat → (List api_Last) × Int → Option ((List api_Last)) :=
  iter fun again v => hocketref4_table.B1 K x0 ex_17 again v.1 v.2
def hocketref4_table.f (K : Nat) (x0 : List api_Last) : Option ((List api_Last)) :=
  hocketref4_table.L1 K x0 (fun v => hocketref4_table.J1 K v) K (([] : List api_Last), 0)

def hocketref4_PutLast.J1 (K : Nat) (t_3 : (List api_Last)) (t_11 : Int) (x1 : Int) (x2 : Int) (t_15 : api_Result) (x_29 : Bool) : Option ((List api_Last)) :=
  if x_29 = true then (
  Option.bind (ix t_3 t_11) fun t_33 =>
  some (t_3.set (t_11).toNat (⟨x1, x2, t_15⟩ : api_Last)))
  else (
  Option.bind (cut t_3 0 t_11) fun t_46 =>
  Option.bind (cut t_3 t_11 (t_3.length : Int)) fun t_49 =>
  Option.bind (app 2513169434916 ([] : List api_Last) t_46) fun t_72 =>
  Option.bind (app 2513169434916 t_72 ([(⟨x1, x2, t_15⟩ : api_Last)] : List api_Last)) fun t_141 =>
  Option.bind (app 2513169434916 t_141 t_49) fun t_155 =>
  some t_155)
def hocketref4_PutLast.f (K : Nat) (x0 : List api_Last) (x1 : Int) (x2 : Int) (x3 : api_Result) : Option ((List api_Last)) :=
  Option.bind (hocketref4_table.f K x0) fun t_3 =>
  Option.bind (hocketref4_at.f K x0 x1) fun t_11 =>
  Option.bind (hocketref4_result.f x3) fun t_15 =>
  if t_11 < (t_3.length : Int) then (
  Option.bind (ix t_3 t_11) fun t_223 =>
  hocketref4_PutLast.J1 K t_3 t_11 x1 x2 t_15 (t_223.Sess == x1))
  else (
  hocketref4_PutLast.J1 K t_3 t_11 x1 x2 t_15 false)

def hocketref4_Step.f (K : Nat) (x0 : api_Machine) (x1 : api_Entry) : Option (api_Machine × api_Result) :=
  Option.bind (hocketref4_Look.f K x0.Table x1.Sess x1.Seq) fun t_9 =>
  if t_9.2 = 0 then (
  Option.bind (hocketref4_Apply.f K x0.Objects x1.Cmd) fun t_22 =>
  Option.bind (hocketref4_PutLast.f K x0.Table x1.Sess x1.Seq t_22.2) fun t_50 =>
  some ((⟨t_22.1, t_50⟩ : api_Machine), t_22.2))
  else (
  Option.bind (hocketref4_Apply.f K x0.Objects (⟨0, 0, ([] : List UInt8), ([] : List UInt8), ([] : List UInt8)⟩ : api_Cmd)) fun t_60 =>
  Option.bind (hocketref4_table.f K x0.Table) fun t_90 =>
  some ((⟨t_60.1, t_90⟩ : api_Machine), t_9.1))

def hocketlaw10_Machine.J1 (K : Nat) (x_8 : api_Machine) : Option (api_Machine) :=
  some x_8
def hocketlaw10_Machine.J2 (K : Nat) (x0 : List Int) (x_33 : Int) (x_34 : api_Machine) (again_55 : Int × api_Machine → Option (api_Machine)) (ex_55 : api_Machine → Option (api_Machine)) (x_65 : Bool) : Option (api_Machine) :=
  if x_65 = true then (
  Option.bind (ix x0 x_33) fun t_71 =>
  Option.bind (hocketlaw10_Entry.f t_71 x_33) fun t_77 =>
  Option.bind (hocketref4_Step.f K x_34 t_77) fun t_114 =>
  again_55 (w64 (x_33 + 1), t_114.1))
  else (
  ex_55 x_34)
def hocketlaw10_Machine.B1 (K : Nat) (x0 : List Int) (ex_55 : api_Machine → Option (api_Machine)) (again_55 : Int × api_Machine → Option (api_Machine)) (x_33 : Int) (x_34 : api_Machine) : Option (api_Machine) :=
  if x_33 < (x0.length : Int) then (
  hocketlaw10_Machine.J2 K x0 x_33 x_34 again_55 ex_55 (decide (x_33 < 60)))
  else (
  hocketlaw10_Machine.J2 K x0 x_33 x_34 again_55 ex_55 false)
def hocketlaw10_Machine.L1 (K : Nat) (x0 : List Int) (ex_55 : api_Machine → Option (api_Machine)) : Nat → Int × api_Machine → Option (api_Machine) :=
  iter fun again v => hocketlaw10_Machine.B1 K x0 ex_55 again v.1 v.2
def hocketlaw10_Machine.f (K : Nat) (x0 : List Int) : Option (api_Machine) :=
  hocketlaw10_Machine.L1 K x0 (fun v => hocketlaw10_Machine.J1 K v) K (0, (⟨(⟨([] : List UInt8), ([] : List (List UInt8)), ([] : List Int), ([] : List api_Pair)⟩ : api_Objects), ([] : List api_Last)⟩ : api_Machine))

def hocketlaw15_State.J1 (K : Nat) (x1 : Int) (t_3 : api_Machine) (x_32 : List api_Entry) : Option (api_State) :=
  some (⟨band .i64 x1 65535, t_3, x_32⟩ : api_State)
def hocketlaw15_State.B1 (K : Nat) (x2 : Int) (x1 : Int) (ex_47 : (List api_Entry) → Option (api_State)) (again_47 : Int × (List api_Entry) → Option (api_State)) (x_41 : Int) (x_42 : List api_Entry) : Option (api_State) :=
  if x_41 < (band .i64 x2 31) then (
  Option.bind (hocketlaw10_Entry.f (w64 ((shr .i64 x1 (wu64 (band .i64 x_41 7))) + (w64 (x_41 * 977)))) (w64 (x_41 + 20))) fun t_52 =>
  Option.bind (app 1353245080339 x_42 ([(⟨t_52.Sess, t_52.Seq, (⟨t_52.Cmd.Kind, mx t_52.Cmd.Who 0, t_52.Cmd.Key, t_52.Cmd.Val, t_52.Cmd.Old⟩ : api_Cmd)⟩ : api_Entry)] : List api_Entry)) fun t_72 =>
  again_47 (w64 (x_41 + 1), t_72))
  else (
  ex_47 x_42)
def hocketlaw15_State.L1 (K : Nat) (x2 : Int) (x1 : Int) (ex_47 : (List api_Entry) → Option (api_State)) : Nat → Int × (List api_Entry) → Option (api_State) :=
  iter fun again v => hocketlaw15_State.B1 K x2 x1 ex_47 again v.1 v.2
def hocketlaw15_State.f (K : Nat) (x0 : List Int) (x1 : Int) (x2 : Int) : Option (api_State) :=
  Option.bind (hocketlaw10_Machine.f K x0) fun t_3 =>
  hocketlaw15_State.L1 K x2 x1 (fun v => hocketlaw15_State.J1 K x1 t_3 v) K (0, ([] : List api_Entry))

def mach_right_2.f (x0 : api_Last) (x1 : api_Last) : Option (Bool) :=
  some (decide (x0.Sess > x1.Sess))

def bytes_Compare.f (x0 : List UInt8) (x1 : List UInt8) : Option (Int) :=
  some (bcmp x0 x1)

def mach_right_1.f (x0 : api_Pair) (x1 : api_Pair) : Option (Bool) :=
  Option.bind (bytes_Compare.f x0.Key x1.Key) fun t_5 =>
  some (decide (t_5 > 0))

def mach_rising_hocket_api_Pair_94.J1 (K : Nat) : Option (Bool) :=
  some true
def mach_rising_hocket_api_Pair_94.B1 (K : Nat) (x0 : List api_Pair) (ex_7 : Unit → Option (Bool)) (again_7 : Int → Option (Bool)) (x_6 : Int) : Option (Bool) :=
  if x_6 < (x0.length : Int) then (
  Option.bind (ix x0 x_6) fun t_14 =>
  Option.bind (ix x0 (w64 (x_6 - 1))) fun t_23 =>
  Option.bind (mach_right_1.f t_14 t_23) fun t_32 =>
  if t_32 = true then (
  again_7 (w64 (x_6 + 1)))
  else (
  some false))
  else (
  ex_7 ())
def mach_rising_hocket_api_Pair_94.L1 (K : Nat) (x0 : List api_Pair) (ex_7 : Unit → Option (Bool)) : Nat → Int → Option (Bool) :=
  iter fun again v => mach_rising_hocket_api_Pair_94.B1 K x0 ex_7 again v
def mach_rising_hocket_api_Pair_94.f (K : Nat) (x0 : List api_Pair) : Option (Bool) :=
  mach_rising_hocket_api_Pair_94.L1 K x0 (fun v => mach_rising_hocket_api_Pair_94.J1 K) K 1

def mach_rising_hocket_api_Last_97.J1 (K : Nat) : Option (Bool) :=
  some true
def mach_rising_hocket_api_Last_97.B1 (K : Nat) (x0 : List api_Last) (ex_7 : Unit → Option (Bool)) (again_7 : Int → Option (Bool)) (x_6 : Int) : Option (Bool) :=
  if x_6 < (x0.length : Int) then (
  Option.bind (ix x0 x_6) fun t_14 =>
  Option.bind (ix x0 (w64 (x_6 - 1))) fun t_21 =>
  Option.bind (mach_right_2.f t_14 t_21) fun t_28 =>
  if t_28 = true then (
  again_7 (w64 (x_6 + 1)))
  else (
  some false))
  else (
  ex_7 ())
def mach_rising_hocket_api_Last_97.L1 (K : Nat) (x0 : List api_Last) (ex_7 : Unit → Option (Bool)) : Nat → Int → Option (Bool) :=
  iter fun again v => mach_rising_hocket_api_Last_97.B1 K x0 ex_7 again v
def mach_rising_hocket_api_Last_97.f (K : Nat) (x0 : List api_Last) : Option (Bool) :=
  mach_rising_hocket_api_Last_97.L1 K x0 (fun v => mach_rising_hocket_api_Last_97.J1 K) K 1

def mach_right.J2 (K : Nat) (x0 : api_Machine) : Option (Bool) :=
  Option.bind (mach_rising_hocket_api_Pair_94.f K x0.Objects.Map) fun t_11 =>
  if t_11 = true then (
  Option.bind (mach_rising_hocket_api_Last_97.f K x0.Table) fun t_17 =>
  some t_17)
  else (
  some false)
def mach_right.B1 (K : Nat) (x0 : api_Machine) (ex_23 : Unit → Option (Bool)) (again_23 : Int → Option (Bool)) (x_22 : Int) : Option (Bool) :=
  if x_22 < (x0.Table.length : Int) then (
  Option.bind (ix x0.Table x_22) fun t_28 =>
  if t_28.Sess < 1 then (
  some false)
  else (
  if t_28.Seq < 1 then (
  some false)
  else (
  again_23 (w64 (x_22 + 1)))))
  else (
  ex_23 ())
def mach_right.L1 (K : Nat) (x0 : api_Machine) (ex_23 : Unit → Option (Bool)) : Nat → Int → Option (Bool) :=
  iter fun again v => mach_right.B1 K x0 ex_23 again v
def mach_right.J1 (K : Nat) (x0 : api_Machine) : Option (Bool) :=
  mach_right.L1 K x0 (fun v => mach_right.J2 K x0) K 0
def mach_right.B2 (K : Nat) (x0 : api_Machine) (ex_43 : Unit → Option (Bool)) (again_43 : Int → Option (Bool)) (x_42 : Int) : Option (Bool) :=
  if x_42 < (x0.Objects.Lock.length : Int) then (
  Option.bind (ix x0.Objects.Lock x_42) fun t_48 =>
  Option.bind (cut x0.Objects.Lock 0 x_42) fun t_53 =>
  Option.bind (slices_Contains_sint_int.f K t_53 t_48) fun t_56 =>
  if t_56 = true then (
  some false)
  else (
  again_43 (w64 (x_42 + 1))))
  else (
  ex_43 ())
def mach_right.L2 (K : Nat) (x0 : api_Machine) (ex_43 : Unit → Option (Bool)) : Nat → Int → Option (Bool) :=
  iter fun again v => mach_right.B2 K x0 ex_43 again v
def mach_right.f (K : Nat) (x0 : api_Machine) : Option (Bool) :=
  mach_right.L2 K x0 (fun v => mach_right.J1 K x0) K 0

def mach_Decode.J1 (K : Nat) (t_10 : api_Machine × (List UInt8) × Bool) (x_42 : Bool) : Option (api_Machine × Bool) :=
  if x_42 = true then (
  some ((⟨(⟨([] : List UInt8), ([] : List (List UInt8)), ([] : List Int), ([] : List api_Pair)⟩ : api_Objects), ([] : List api_Last)⟩ : api_Machine), false))
  else (
  some (t_10.1, true))
def mach_Decode.f (K : Nat) (x0 : List UInt8) : Option (api_Machine × Bool) :=
  Option.bind (pack_Read.f x0) fun t_3 =>
  Option.bind (mach_read.f K t_3.1 t_3.2) fun t_10 =>
  Option.bind (pack_Reader_End.f t_10.2.1 t_10.2.2) fun t_53 =>
  if t_53 = true then (
  Option.bind (mach_right.f K t_10.1) fun t_58 =>
  mach_Decode.J1 K t_10 (!t_58))
  else (
  mach_Decode.J1 K t_10 true)

def blob_read.J1 (K : Nat) (t_10 : Int × (List UInt8) × Bool) (t_29 : api_Machine × Bool) (x_65 : pack_Reader) (x_68 : List api_Entry) : Option (api_State × Bool) :=
  if t_10.1 > (w64 (549755813888 - (x_68.length : Int))) then (
  some ((⟨0, (⟨(⟨([] : List UInt8), ([] : List (List UInt8)), ([] : List Int), ([] : List api_Pair)⟩ : api_Objects), ([] : List api_Last)⟩ : api_Machine), ([] : List api_Entry)⟩ : api_State), false))
  else (
  if t_29.2 = true then (
  Option.bind (pack_Reader_End.f x_65.b x_65.bad) fun t_87 =>
  some ((⟨t_10.1, t_29.1, x_68⟩ : api_State), t_87))
  else (
  some ((⟨t_10.1, t_29.1, x_68⟩ : api_State), false)))
def blob_read.B1 (K : Nat) (t_58 : Int × (List UInt8) × Bool) (ex_103 : pack_Reader × (List api_Entry) → Option (api_State × Bool)) (again_103 : Int × pack_Reader × (List api_Entry) → Option (api_State × Bool)) (x_94 : Int) (x_95 : pack_Reader) (x_98 : List api_Entry) : Option (api_State × Bool) :=
  if x_94 < t_58.1 then (
  Option.bind (mach_GetEntry.f K x_95.b x_95.bad) fun t_110 =>
  Option.bind (app 1353245080339 x_98 ([t_110.1] : List api_Entry)) fun t_137 =>
  again_103 (w64 (x_94 + 1), (⟨t_110.2.1, t_110.2.2⟩ : pack_Reader), t_137))
  else (
  ex_103 (x_95, x_98))
def blob_read.L1 (K : Nat) (t_58 : Int × (List UInt8) × Bool) (ex_103 : pack_Reader × (List api_Entry) → Option (api_State × Bool)) : Nat → Int × pack_Reader × (List api_Entry) → Option (api_State × Bool) :=
  iter fun again v => blob_read.B1 K t_58 ex_103 again v.1 v.2.1 v.2.2
def blob_read.f (K : Nat) (x0 : List UInt8) : Option (api_State × Bool) :=
  Option.bind (pack_Read.f x0) fun t_3 =>
  Option.bind (pack_Reader_Num.f K t_3.1 t_3.2 549755813888) fun t_10 =>
  Option.bind (pack_Reader_Bytes.f K t_10.2.1 t_10.2.2 1048576) fun t_19 =>
  Option.bind (mach_Decode.f K t_19.1) fun t_29 =>
  Option.bind (pack_Reader_Num.f K t_19.2.1 t_19.2.2 64) fun t_58 =>
  blob_read.L1 K t_58 (fun v => blob_read.J1 K t_10 t_29 v.1 v.2) K (0, (⟨t_58.2.1, t_58.2.2⟩ : pack_Reader), ([] : List api_Entry))

def blob_Decode.J1 (K : Nat) (t_10 : api_State × Bool) (x_44 : Bool) : Option (api_State × Bool) :=
  if x_44 = true then (
  some ((⟨0, (⟨(⟨([] : List UInt8), ([] : List (List UInt8)), ([] : List Int), ([] : List api_Pair)⟩ : api_Objects), ([] : List api_Last)⟩ : api_Machine), ([] : List api_Entry)⟩ : api_State), false))
  else (
  some (t_10.1, true))
def blob_Decode.f (K : Nat) (x0 : List UInt8) : Option (api_State × Bool) :=
  Option.bind (fram_Sound.f K x0) fun t_3 =>
  Option.bind (blob_read.f K t_3.1) fun t_10 =>
  if t_3.2 = true then (
  blob_Decode.J1 K t_10 (!t_10.2))
  else (
  blob_Decode.J1 K t_10 true)

def hocketlaw15_awake.f (K : Nat) : Option (Unit) :=
  Option.bind (blob_Encode.f K (⟨3, (⟨(⟨([] : List UInt8), ([] : List (List UInt8)), ([] : List Int), ([] : List api_Pair)⟩ : api_Objects), ([] : List api_Last)⟩ : api_Machine), ([(⟨1, 1, (⟨1, 0, ([] : List UInt8), ([] : List UInt8), ([] : List UInt8)⟩ : api_Cmd)⟩ : api_Entry)] : List api_Entry)⟩ : api_State)) fun t_10 =>
  Option.bind (blob_Decode.f K t_10) fun t_18 =>
  Option.bind (cut t_10 0 (w64 (Int.tdiv (t_10.length : Int) 2))) fun t_50 =>
  Option.bind (blob_Decode.f K t_50) fun t_53 =>
  Option.bind (blob_Part.f t_10 4) fun t_84 =>
  Option.bind (blob_Part.f t_10 (t_10.length : Int)) fun t_92 =>
  if t_18.2 = true then (
  Option.bind (hocketref15_Same.f K (⟨3, (⟨(⟨([] : List UInt8), ([] : List (List UInt8)), ([] : List Int), ([] : List api_Pair)⟩ : api_Objects), ([] : List api_Last)⟩ : api_Machine), ([(⟨1, 1, (⟨1, 0, ([] : List UInt8), ([] : List UInt8), ([] : List UInt8)⟩ : api_Cmd)⟩ : api_Entry)] : List api_Entry)⟩ : api_State) t_18.1) fun t_102 =>
  if t_102 = true then (
  if t_53.2 = true then (
  none)
  else (
  if t_84.2 = true then (
  if (t_84.1.length : Int) = (w64 ((t_10.length : Int) - 4)) then (
  if t_92.2 = true then (
  none)
  else (
  if (t_10.length : Int) = 19 then (
  some ())
  else (
  none)))
  else (
  none))
  else (
  none)))
  else (
  none))
  else (
  none)

def hocketlaw15_BlobOwn.J3 (K : Nat) (t_29 : (List UInt8)) (t_37 : api_State × Bool) (t_68 : (List UInt8) × Bool) : Option (Unit) :=
  Option.bind (blob_Decode.f K t_29) fun t_95 =>
  if t_37.2 = true then (
  if t_68.2 = true then (
  if t_95.2 = true then (
  if t_29 = t_29 then (
  Option.bind (blob_Encode.f K t_95.1) fun t_131 =>
  if t_131 = t_29 then (
  Option.bind (hocketlaw15_awake.f K) fun t_140 =>
  some ())
  else (
  none))
  else (
  none))
  else (
  none))
  else (
  none))
  else (
  none)
def hocketlaw15_BlobOwn.B1 (K : Nat) (t_37 : api_State × Bool) (ex_151 : Unit → Option (Unit)) (again_151 : Int × (List UInt8) → Option (Unit)) (x_145 : Int) (x_146 : List UInt8) : Option (Unit) :=
  if x_145 < (t_37.1.Machine.Objects.Reg.length : Int) then (
  Option.bind (ix x_146 x_145) fun t_155 =>
  Option.bind (ix x_146 x_145) fun t_160 =>
  again_151 (w64 (x_145 + 1), (x_146.set (x_145).toNat (toU8 ((t_155.toNat : Int) + ((1 : UInt8).toNat : Int))))))
  else (
  ex_151 ())
def hocketlaw15_BlobOwn.L1 (K : Nat) (t_37 : api_State × Bool) (ex_151 : Unit → Option (Unit)) : Nat → Int × (List UInt8) → Option (Unit) :=
  iter fun again v => hocketlaw15_BlobOwn.B1 K t_37 ex_151 again v.1 v.2
def hocketlaw15_BlobOwn.J2 (K : Nat) (t_37 : api_State × Bool) (t_29 : (List UInt8)) (t_68 : (List UInt8) × Bool) (x_82 : List api_Entry) : Option (Unit) :=
  hocketlaw15_BlobOwn.L1 K t_37 (fun v => hocketlaw15_BlobOwn.J3 K t_29 t_37 t_68) K (0, t_37.1.Machine.Objects.Reg)
def hocketlaw15_BlobOwn.J4 (K : Nat) (again_176 : Int × (List api_Entry) → Option (Unit)) (x_168 : Int) (x_169 : List api_Entry) (t_181 : api_Entry) : Option (Unit) :=
  again_176 (w64 (x_168 + 1), (x_169.set (x_168).toNat (⟨99, t_181.Seq, t_181.Cmd⟩ : api_Entry)))
def hocketlaw15_BlobOwn.B3 (K : Nat) (t_194 : api_Entry) (x_169 : List api_Entry) (x_168 : Int) (t_181 : api_Entry) (ex_215 : Unit → Option (Unit)) (again_215 : Int → Option (Unit)) (x_212 : Int) : Option (Unit) :=
  if x_212 < (t_194.Cmd.Val.length : Int) then (
  Option.bind (ix (x_169.set (x_168).toNat (⟨99, t_181.Seq, t_181.Cmd⟩ : api_Entry)) x_168) fun t_219 =>
  Option.bind (ix t_219.Cmd.Val x_212) fun t_230 =>
  Option.bind (ix t_219.Cmd.Val x_212) fun t_237 =>
  again_215 (w64 (x_212 + 1)))
  else (
  ex_215 ())
def hocketlaw15_BlobOwn.L3 (K : Nat) (t_194 : api_Entry) (x_169 : List api_Entry) (x_168 : Int) (t_181 : api_Entry) (ex_215 : Unit → Option (Unit)) : Nat → Int → Option (Unit) :=
  iter fun again v => hocketlaw15_BlobOwn.B3 K t_194 x_169 x_168 t_181 ex_215 again v
def hocketlaw15_BlobOwn.B2 (K : Nat) (t_37 : api_State × Bool) (ex_176 : (List api_Entry) → Option (Unit)) (again_176 : Int × (List api_Entry) → Option (Unit)) (x_168 : Int) (x_169 : List api_Entry) : Option (Unit) :=
  if x_168 < (t_37.1.Rest.length : Int) then (
  Option.bind (ix x_169 x_168) fun t_181 =>
  Option.bind (ix (x_169.set (x_168).toNat (⟨99, t_181.Seq, t_181.Cmd⟩ : api_Entry)) x_168) fun t_194 =>
  hocketlaw15_BlobOwn.L3 K t_194 x_169 x_168 t_181 (fun v => hocketlaw15_BlobOwn.J4 K again_176 x_168 x_169 t_181) K 0)
  else (
  ex_176 x_169)
def hocketlaw15_BlobOwn.L2 (K : Nat) (t_37 : api_State × Bool) (ex_176 : (List api_Entry) → Option (Unit)) : Nat → Int × (List api_Entry) → Option (Unit) :=
  iter fun again v => hocketlaw15_BlobOwn.B2 K t_37 ex_176 again v.1 v.2
def hocketlaw15_BlobOwn.J1 (K : Nat) (t_37 : api_State × Bool) (t_29 : (List UInt8)) (t_68 : (List UInt8) × Bool) : Option (Unit) :=
  hocketlaw15_BlobOwn.L2 K t_37 (fun v => hocketlaw15_BlobOwn.J2 K t_37 t_29 t_68 v) K (0, t_37.1.Rest)
def hocketlaw15_BlobOwn.B4 (K : Nat) (t_68 : (List UInt8) × Bool) (ex_252 : Unit → Option (Unit)) (again_252 : (List UInt8) × Int → Option (Unit)) (x_246 : List UInt8) (x_251 : Int) : Option (Unit) :=
  if x_251 < (t_68.1.length : Int) then (
  Option.bind (ix x_246 x_251) fun t_256 =>
  Option.bind (ix x_246 x_251) fun t_261 =>
  again_252 ((x_246.set (x_251).toNat (toU8 ((t_256.toNat : Int) + ((1 : UInt8).toNat : Int)))), w64 (x_251 + 1)))
  else (
  ex_252 ())
def hocketlaw15_BlobOwn.L4 (K : Nat) (t_68 : (List UInt8) × Bool) (ex_252 : Unit → Option (Unit)) : Nat → (List UInt8) × Int → Option (Unit) :=
  iter fun again v => hocketlaw15_BlobOwn.B4 K t_68 ex_252 again v.1 v.2
def hocketlaw15_BlobOwn.f (K : Nat) (x0 : List Int) (x1 : Int) (x2 : Int) : Option (Unit) :=
  Option.bind (hocketlaw15_State.f K x0 x1 x2) fun t_1 =>
  Option.bind (hocketref15_Encode.f K t_1) fun t_29 =>
  Option.bind (blob_Decode.f K t_29) fun t_37 =>
  Option.bind (blob_Part.f t_29 0) fun t_68 =>
  hocketlaw15_BlobOwn.L4 K t_68 (fun v => hocketlaw15_BlobOwn.J1 K t_37 t_29 t_68) K (t_68.1, 0)

end Go.Gp
