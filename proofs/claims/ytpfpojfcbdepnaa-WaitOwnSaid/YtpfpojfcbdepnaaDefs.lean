/- The functions that the law reaches, told plainly. -/
import Derived.Test.YtpfpojfcbdepnaaLa
namespace Go.Gp
set_option linter.unusedVariables false
structure api_Cmd where
  Kind : Int
  Who : Int
  Key : List UInt8
  Val : List UInt8
  Old : List UInt8
  deriving DecidableEq
structure api_Entry where
  Sess : Int
  Seq : Int
  Cmd : api_Cmd
  deriving DecidableEq
structure wait_call where
  e : api_Entry
  sent : Bool
  deriving DecidableEq
structure api_Result where
  Err : Int
  Val : List UInt8
  N : Int
  deriving DecidableEq
structure api_Reply where
  Sess : Int
  Seq : Int
  Result : api_Result
  deriving DecidableEq
structure api_Done where
  Index : Int
  Entry : api_Entry
  Result : api_Result
  deriving DecidableEq
structure wait_Calls where
  l : List wait_call
  done : List api_Reply
  deriving DecidableEq
def ok_api_Cmd (x : api_Cmd) : Prop := i64ok x.Kind ∧ i64ok x.Who ∧ (x.Key.length ≤ 140737488351232 ∧ ∀ z ∈ x.Key, True) ∧ (x.Val.length ≤ 140737488351232 ∧ ∀ z ∈ x.Val, True) ∧ (x.Old.length ≤ 140737488351232 ∧ ∀ z ∈ x.Old, True)
def ok_api_Entry (x : api_Entry) : Prop := i64ok x.Sess ∧ i64ok x.Seq ∧ ok_api_Cmd x.Cmd
def ok_wait_call (x : wait_call) : Prop := ok_api_Entry x.e ∧ True
def ok_api_Result (x : api_Result) : Prop := i64ok x.Err ∧ (x.Val.length ≤ 140737488351232 ∧ ∀ z ∈ x.Val, True) ∧ i64ok x.N
def ok_api_Reply (x : api_Reply) : Prop := i64ok x.Sess ∧ i64ok x.Seq ∧ ok_api_Result x.Result
def ok_api_Done (x : api_Done) : Prop := i64ok x.Index ∧ ok_api_Entry x.Entry ∧ ok_api_Result x.Result
def ok_wait_Calls (x : wait_Calls) : Prop := (x.l.length ≤ 140737488351232 ∧ ∀ z ∈ x.l, ok_wait_call z) ∧ (x.done.length ≤ 140737488351232 ∧ ∀ z ∈ x.done, ok_api_Reply z)
def wait_New.f : Option ((List wait_call) × (List api_Reply)) :=
  some (([] : List wait_call), ([] : List api_Reply))

def slices_Clone_sbyte_byte.f (x0 : List UInt8) : Option (List UInt8) :=
  app 140737488355328 ([] : List UInt8) x0

def mach_StillEntry.f (x0 : api_Entry) : Option (api_Entry) :=
  Option.bind (slices_Clone_sbyte_byte.f x0.Cmd.Key) fun t_13 =>
  Option.bind (slices_Clone_sbyte_byte.f x0.Cmd.Val) fun t_27 =>
  Option.bind (slices_Clone_sbyte_byte.f x0.Cmd.Old) fun t_41 =>
  some (⟨x0.Sess, x0.Seq, (⟨x0.Cmd.Kind, x0.Cmd.Who, t_13, t_27, t_41⟩ : api_Cmd)⟩ : api_Entry)

def wait_Calls_Waiting.f (x0_l : List wait_call) (x0_done : List api_Reply) : Option (Int) :=
  some (x0_l.length : Int)

def wait_Calls_Next.J1 (K : Nat) (x0_done : List api_Reply) (x_3 : List api_Entry) (x_8 : List wait_call) : Option ((List api_Entry) × (List wait_call) × (List api_Reply)) :=
  some (x_3, x_8, x0_done)
def wait_Calls_Next.J2 (K : Nat) (x_21 : List wait_call) (x_26 : Int) (t_34 : wait_call) (x_16 : List api_Entry) (again_28 : (List api_Entry) × (List wait_call) × Int → Option ((List api_Entry) × (List wait_call) × (List api_Reply))) (x_50 : Bool) : Option ((List api_Entry) × (List wait_call) × (List api_Reply)) :=
  if x_50 = true then (
  Option.bind (ix x_21 x_26) fun t_54 =>
  Option.bind (mach_StillEntry.f t_34.e) fun t_67 =>
  Option.bind (app 1353245080339 x_16 ([t_67] : List api_Entry)) fun t_92 =>
  again_28 (t_92, (x_21.set (x_26).toNat (⟨t_54.e, true⟩ : wait_call)), w64 (x_26 + 1)))
  else (
  again_28 (x_16, x_21, w64 (x_26 + 1)))
def wait_Calls_Next.B1 (K : Nat) (x0_l : List wait_call) (x1 : Int) (ex_28 : (List api_Entry) × (List wait_call) → Option ((List api_Entry) × (List wait_call) × (List api_Reply))) (again_28 : (List api_Entry) × (List wait_call) × Int → Option ((List api_Entry) × (List wait_call) × (List api_Reply))) (x_16 : List api_Entry) (x_21 : List wait_call) (x_26 : Int) : Option ((List api_Entry) × (List wait_call) × (List api_Reply)) :=
  if x_26 < (x0_l.length : Int) then (
  Option.bind (ix x_21 x_26) fun t_34 =>
  if t_34.sent = true then (
  wait_Calls_Next.J2 K x_21 x_26 t_34 x_16 again_28 false)
  else (
  wait_Calls_Next.J2 K x_21 x_26 t_34 x_16 again_28 (decide ((x_16.length : Int) < x1))))
  else (
  ex_28 (x_16, x_21))
def wait_Calls_Next.L1 (K : Nat) (x0_l : List wait_call) (x1 : Int) (ex_28 : (List api_Entry) × (List wait_call) → Option ((List api_Entry) × (List wait_call) × (List api_Reply))) : Nat → (List api_Entry) × (List wait_call) × Int → Option ((List api_Entry) × (List wait_call) × (List api_Reply)) :=
  iter fun again v => wait_Calls_Next.B1 K x0_l x1 ex_28 again v.1 v.2.1 v.2.2
def wait_Calls_Next.f (K : Nat) (x0_l : List wait_call) (x0_done : List api_Reply) (x1 : Int) : Option ((List api_Entry) × (List wait_call) × (List api_Reply)) :=
  wait_Calls_Next.L1 K x0_l x1 (fun v => wait_Calls_Next.J1 K x0_done v.1 v.2) K (([] : List api_Entry), x0_l, 0)

def slices_Delete_shocket_wait_call_hocket_wait_call.f (x0 : List wait_call) (x1 : Int) (x2 : Int) : Option ((List wait_call)) :=
  Option.bind (must (0 ≤ x1 ∧ x1 ≤ x2 ∧ x2 ≤ (x0.length : Int))) fun u_1 =>
  if x1 = x2 then (
  some x0)
  else (
  some (x0.take (x1).toNat ++ x0.drop (x2).toNat))



def wait_Calls_Take.f (x0_l : List wait_call) (x0_done : List api_Reply) : Option ((List api_Reply) × (List wait_call) × (List api_Reply)) :=
  some (x0_done, x0_l, ([] : List api_Reply))

def wait_Calls_Again.J1 (K : Nat) (x0_done : List api_Reply) (x_3 : List wait_call) : Option ((List wait_call) × (List api_Reply)) :=
  some (x_3, x0_done)
def wait_Calls_Again.B1 (K : Nat) (x0_l : List wait_call) (ex_17 : (List wait_call) → Option ((List wait_call) × (List api_Reply))) (again_17 : Int × (List wait_call) → Option ((List wait_call) × (List api_Reply))) (x_11 : Int) (x_12 : List wait_call) : Option ((List wait_call) × (List api_Reply)) :=
  if x_11 < (x0_l.length : Int) then (
  Option.bind (ix x_12 x_11) fun t_21 =>
  again_17 (w64 (x_11 + 1), (x_12.set (x_11).toNat (⟨t_21.e, false⟩ : wait_call))))
  else (
  ex_17 x_12)
def wait_Calls_Again.L1 (K : Nat) (x0_l : List wait_call) (ex_17 : (List wait_call) → Option ((List wait_call) × (List api_Reply))) : Nat → Int × (List wait_call) → Option ((List wait_call) × (List api_Reply)) :=
  iter fun again v => wait_Calls_Again.B1 K x0_l ex_17 again v.1 v.2
def wait_Calls_Again.f (K : Nat) (x0_l : List wait_call) (x0_done : List api_Reply) : Option ((List wait_call) × (List api_Reply)) :=
  wait_Calls_Again.L1 K x0_l (fun v => wait_Calls_Again.J1 K x0_done v) K (0, x0_l)

def hocketlaw7_Keys.f (x0 : Int) : Option ((List UInt8)) :=
  Option.bind (ix ([([] : List UInt8), ([97] : List UInt8), ([98] : List UInt8), ([99] : List UInt8), ([97, 98] : List UInt8), ([97, 98, 99] : List UInt8), ([122] : List UInt8), ([0] : List UInt8), ([255] : List UInt8), ([97, 98, 99, 100, 101, 102, 103, 104] : List UInt8), ([97, 98, 99, 100, 101, 102, 103, 104, 105] : List UInt8), ([107, 49] : List UInt8), ([107, 50] : List UInt8), ([107, 51] : List UInt8), ([107, 52] : List UInt8), ([107, 53] : List UInt8)] : List (List UInt8)) (band .i64 x0 15)) fun t_7 =>
  Option.bind (must (t_7.length ≤ 9223372036854775807)) fun u_12 =>
  some t_7

def hocketlaw8_Cmd.J2 (x0 : Int) (t_25 : (List UInt8)) (t_9 : List UInt8) (t_45 : List UInt8) (x_156 : Int) : Option (api_Cmd) :=
  if (band .i64 (shr .i64 x0 19) 31) = 0 then (
  some (⟨band .i64 (shr .i64 x0 24) 31, w64 ((band .i64 (shr .i64 x0 17) 2047) - 20), t_25, t_9, t_45⟩ : api_Cmd))
  else (
  some (⟨x_156, band .i64 (shr .i64 x0 8) 7, t_25, t_9, t_45⟩ : api_Cmd))
def hocketlaw8_Cmd.J1 (x0 : Int) (t_25 : (List UInt8)) (t_9 : List UInt8) (t_45 : List UInt8) (x_152 : Bool) : Option (api_Cmd) :=
  if x_152 = true then (
  Option.bind (ix ([1, 2, 4, 9] : List Int) (band .i64 (shr .i64 x0 17) 3)) fun t_172 =>
  hocketlaw8_Cmd.J2 x0 t_25 t_9 t_45 t_172)
  else (
  hocketlaw8_Cmd.J2 x0 t_25 t_9 t_45 (w64 ((Int.tmod (band .i64 x0 31) 13) + 0)))
def hocketlaw8_Cmd.f (x0 : Int) : Option (api_Cmd) :=
  Option.bind (ix ([([] : List UInt8), ([97] : List UInt8), ([98] : List UInt8), ([97, 98] : List UInt8), ([118, 97, 108, 117, 101] : List UInt8), ([48, 49, 50, 51, 52, 53, 54, 55, 56, 57, 97, 98, 99, 100, 101, 102] : List UInt8), ([48, 49, 50, 51, 52, 53, 54, 55, 56, 57, 97, 98, 99, 100, 101, 102, 103] : List UInt8), ([0, 255] : List UInt8)] : List (List UInt8)) (band .i64 (shr .i64 x0 5) 7)) fun t_9 =>
  Option.bind (must (t_9.length ≤ 9223372036854775807)) fun u_14 =>
  Option.bind (hocketlaw7_Keys.f (shr .i64 x0 11)) fun t_25 =>
  Option.bind (ix ([([] : List UInt8), ([97] : List UInt8), ([98] : List UInt8), ([97, 98] : List UInt8)] : List (List UInt8)) (band .i64 (shr .i64 x0 15) 3)) fun t_45 =>
  Option.bind (must (t_45.length ≤ 9223372036854775807)) fun u_57 =>
  if (w64 ((Int.tmod (band .i64 x0 31) 13) + 0)) = 0 then (
  hocketlaw8_Cmd.J1 x0 t_25 t_9 t_45 true)
  else (
  hocketlaw8_Cmd.J1 x0 t_25 t_9 t_45 ((w64 ((Int.tmod (band .i64 x0 31) 13) + 0)) == 12))

def hocketlaw10_Entry.f (x0 : Int) (x1 : Int) : Option (api_Entry) :=
  Option.bind (hocketlaw8_Cmd.f x0) fun t_3 =>
  some (⟨w64 ((Int.tmod (band .i64 (shr .i64 x0 25) 7) 6) + 1), w64 ((w64 ((w64 (Int.tdiv x1 3)) + (band .i64 (shr .i64 x0 28) 1))) + 1), t_3⟩ : api_Entry)

def hocketref4_SameEntry.f (x0 : api_Entry) (x1 : api_Entry) : Option (Bool) :=
  if x0.Sess = x1.Sess then (
  if x0.Seq = x1.Seq then (
  if x0.Cmd.Kind = x1.Cmd.Kind then (
  if x0.Cmd.Who = x1.Cmd.Who then (
  if x0.Cmd.Key = x1.Cmd.Key then (
  if x0.Cmd.Val = x1.Cmd.Val then (
  some (x0.Cmd.Old == x1.Cmd.Old))
  else (
  some false))
  else (
  some false))
  else (
  some false))
  else (
  some false))
  else (
  some false))
  else (
  some false)

def wait_Calls_find_1.f (x0 : wait_call) (x1_Sess : Int) (x1_Seq : Int) (x1_Cmd_Kind : Int) (x1_Cmd_Who : Int) (x1_Cmd_Key : List UInt8) (x1_Cmd_Val : List UInt8) (x1_Cmd_Old : List UInt8) : Option (Bool) :=
  if x0.e.Sess = x1_Sess then (
  some (x0.e.Seq == x1_Seq))
  else (
  some false)

def slices_IndexFunc_shocket_wait_call_hocket_wait_call_22.J1 (K : Nat) : Option (Int) :=
  some (-1)
def slices_IndexFunc_shocket_wait_call_hocket_wait_call_22.B1 (K : Nat) (x0 : List wait_call) (x2_Sess : Int) (x2_Seq : Int) (x2_Cmd_Kind : Int) (x2_Cmd_Who : Int) (x2_Cmd_Key : List UInt8) (x2_Cmd_Val : List UInt8) (x2_Cmd_Old : List UInt8) (ex_7 : Unit → Option (Int)) (again_7 : Int → Option (Int)) (x_6 : Int) : Option (Int) :=
  if x_6 < (x0.length : Int) then (
  Option.bind (ix x0 x_6) fun t_12 =>
  Option.bind (wait_Calls_find_1.f t_12 x2_Sess x2_Seq x2_Cmd_Kind x2_Cmd_Who x2_Cmd_Key x2_Cmd_Val x2_Cmd_Old) fun t_23 =>
  if t_23 = true then (
  some x_6)
  else (
  again_7 (w64 (x_6 + 1))))
  else (
  ex_7 ())
def slices_IndexFunc_shocket_wait_call_hocket_wait_call_22.L1 (K : Nat) (x0 : List wait_call) (x2_Sess : Int) (x2_Seq : Int) (x2_Cmd_Kind : Int) (x2_Cmd_Who : Int) (x2_Cmd_Key : List UInt8) (x2_Cmd_Val : List UInt8) (x2_Cmd_Old : List UInt8) (ex_7 : Unit → Option (Int)) : Nat → Int → Option (Int) :=
  iter fun again v => slices_IndexFunc_shocket_wait_call_hocket_wait_call_22.B1 K x0 x2_Sess x2_Seq x2_Cmd_Kind x2_Cmd_Who x2_Cmd_Key x2_Cmd_Val x2_Cmd_Old ex_7 again v
def slices_IndexFunc_shocket_wait_call_hocket_wait_call_22.f (K : Nat) (x0 : List wait_call) (x2_Sess : Int) (x2_Seq : Int) (x2_Cmd_Kind : Int) (x2_Cmd_Who : Int) (x2_Cmd_Key : List UInt8) (x2_Cmd_Val : List UInt8) (x2_Cmd_Old : List UInt8) : Option (Int) :=
  slices_IndexFunc_shocket_wait_call_hocket_wait_call_22.L1 K x0 x2_Sess x2_Seq x2_Cmd_Kind x2_Cmd_Who x2_Cmd_Key x2_Cmd_Val x2_Cmd_Old (fun v => slices_IndexFunc_shocket_wait_call_hocket_wait_call_22.J1 K) K 0

def wait_Calls_find.f (K : Nat) (x0_l : List wait_call) (x0_done : List api_Reply) (x1 : api_Entry) : Option (Int) :=
  Option.bind (slices_IndexFunc_shocket_wait_call_hocket_wait_call_22.f K x0_l x1.Sess x1.Seq x1.Cmd.Kind x1.Cmd.Who x1.Cmd.Key x1.Cmd.Val x1.Cmd.Old) fun t_3 =>
  some t_3

def wait_Calls_Call.f (K : Nat) (x0_l : List wait_call) (x0_done : List api_Reply) (x1 : api_Entry) : Option (Bool × (List wait_call) × (List api_Reply)) :=
  Option.bind (wait_Calls_find.f K x0_l x0_done x1) fun t_4 =>
  if t_4 ≥ 0 then (
  some (true, x0_l, x0_done))
  else (
  if (x0_l.length : Int) ≥ 8 then (
  some (false, x0_l, x0_done))
  else (
  Option.bind (mach_StillEntry.f x1) fun t_12 =>
  Option.bind (app 1256584717458 x0_l ([(⟨t_12, false⟩ : wait_call)] : List wait_call)) fun t_37 =>
  some (true, t_37, x0_done)))

def wait_Calls_Done.f (K : Nat) (x0_l : List wait_call) (x0_done : List api_Reply) (x1 : api_Done) : Option (Bool × (List wait_call) × (List api_Reply)) :=
  Option.bind (wait_Calls_find.f K x0_l x0_done x1.Entry) fun t_3 =>
  if t_3 < 0 then (
  some (false, x0_l, x0_done))
  else (
  Option.bind (slices_Delete_shocket_wait_call_hocket_wait_call.f x0_l t_3 (w64 (t_3 + 1))) fun t_9 =>
  Option.bind (slices_Clone_sbyte_byte.f x1.Result.Val) fun t_22 =>
  Option.bind (app 2513169434916 x0_done ([(⟨x1.Entry.Sess, x1.Entry.Seq, (⟨x1.Result.Err, t_22, x1.Result.N⟩ : api_Result)⟩ : api_Reply)] : List api_Reply)) fun t_40 =>
  some (true, t_9, t_40))

def hocketlaw20_awake.f (K : Nat) : Option (Unit) :=
  Option.bind (wait_New.f) fun t_1 =>
  Option.bind (wait_Calls_Call.f K t_1.1 t_1.2 (⟨1, 2, (⟨1, 0, ([] : List UInt8), ([] : List UInt8), ([] : List UInt8)⟩ : api_Cmd)⟩ : api_Entry)) fun t_20 =>
  Option.bind (wait_Calls_Call.f K t_20.2.1 t_20.2.2 (⟨1, 2, (⟨1, 0, ([] : List UInt8), ([] : List UInt8), ([] : List UInt8)⟩ : api_Cmd)⟩ : api_Entry)) fun t_32 =>
  Option.bind (wait_Calls_Next.f K t_32.2.1 t_32.2.2 5) fun t_44 =>
  Option.bind (wait_Calls_Next.f K t_44.2.1 t_44.2.2 5) fun t_60 =>
  Option.bind (wait_Calls_Again.f K t_60.2.1 t_60.2.2) fun t_76 =>
  Option.bind (wait_Calls_Next.f K t_76.1 t_76.2 5) fun t_88 =>
  Option.bind (wait_Calls_Done.f K t_88.2.1 t_88.2.2 (⟨4, (⟨1, 2, (⟨1, 0, ([] : List UInt8), ([] : List UInt8), ([] : List UInt8)⟩ : api_Cmd)⟩ : api_Entry), (⟨0, ([] : List UInt8), 9⟩ : api_Result)⟩ : api_Done)) fun t_104 =>
  Option.bind (wait_Calls_Done.f K t_104.2.1 t_104.2.2 (⟨0, (⟨1, 2, (⟨1, 0, ([] : List UInt8), ([] : List UInt8), ([] : List UInt8)⟩ : api_Cmd)⟩ : api_Entry), (⟨0, ([] : List UInt8), 0⟩ : api_Result)⟩ : api_Done)) fun t_116 =>
  Option.bind (wait_Calls_Take.f t_116.2.1 t_116.2.2) fun t_128 =>
  if t_20.1 = true then (
  if t_32.1 = true then (
  if (t_44.1.length : Int) = 1 then (
  if (t_60.1.length : Int) = 0 then (
  if (t_88.1.length : Int) = 1 then (
  if t_104.1 = true then (
  if t_116.1 = true then (
  none)
  else (
  if (t_128.1.length : Int) = 1 then (
  Option.bind (ix t_128.1 0) fun t_153 =>
  if t_153.Result.N = 9 then (
  Option.bind (wait_Calls_Take.f t_128.2.1 t_128.2.2) fun t_161 =>
  if (t_161.1.length : Int) = 0 then (
  Option.bind (wait_Calls_Waiting.f t_161.2.1 t_161.2.2) fun t_178 =>
  if t_178 = 0 then (
  some ())
  else (
  none))
  else (
  none))
  else (
  none))
  else (
  none)))
  else (
  none))
  else (
  none))
  else (
  none))
  else (
  none))
  else (
  none))
  else (
  none)

def hocketlaw20_WaitTwice.J3 (K : Nat) (x_63 : Bool) (x_64 : wait_Calls) : Option (Unit) :=
  if x_63 = true then (
  none)
  else (
  Option.bind (ix ([(118 : UInt8)] : List UInt8) 0) fun t_76 =>
  Option.bind (wait_Calls_Take.f x_64.l x_64.done) fun t_84 =>
  if (t_84.1.length : Int) = 1 then (
  Option.bind (ix t_84.1 0) fun t_102 =>
  if t_102.Sess = 3 then (
  Option.bind (ix t_84.1 0) fun t_110 =>
  if t_110.Seq = 4 then (
  Option.bind (ix t_84.1 0) fun t_118 =>
  if t_118.Result.N = 5 then (
  Option.bind (ix t_84.1 0) fun t_126 =>
  if t_126.Result.Val = ([118] : List UInt8) then (
  Option.bind (wait_Calls_Call.f K t_84.2.1 t_84.2.2 (⟨3, 4, (⟨1, 0, ([] : List UInt8), ([] : List UInt8), ([] : List UInt8)⟩ : api_Cmd)⟩ : api_Entry)) fun t_134 =>
  if t_134.1 = true then (
  Option.bind (wait_Calls_Waiting.f t_134.2.1 t_134.2.2) fun t_147 =>
  if t_147 = 1 then (
  Option.bind (wait_Calls_Next.f K t_134.2.1 t_134.2.2 9) fun t_152 =>
  if (t_152.1.length : Int) = 1 then (
  Option.bind (hocketlaw20_awake.f K) fun t_169 =>
  some ())
  else (
  none))
  else (
  none))
  else (
  none))
  else (
  none))
  else (
  none))
  else (
  none))
  else (
  none))
  else (
  none))
def hocketlaw20_WaitTwice.J2 (K : Nat) (x_34 : Bool) (x_35 : wait_Calls) : Option (Unit) :=
  if x_34 = true then (
  none)
  else (
  Option.bind (wait_Calls_Done.f K x_35.l x_35.done (⟨0, (⟨3, 4, (⟨1, 0, ([] : List UInt8), ([] : List UInt8), ([] : List UInt8)⟩ : api_Cmd)⟩ : api_Entry), (⟨0, ([(118 : UInt8)] : List UInt8), 5⟩ : api_Result)⟩ : api_Done)) fun t_173 =>
  if t_173.1 = true then (
  Option.bind (wait_Calls_Done.f K t_173.2.1 t_173.2.2 (⟨0, (⟨3, 4, (⟨1, 0, ([] : List UInt8), ([] : List UInt8), ([] : List UInt8)⟩ : api_Cmd)⟩ : api_Entry), (⟨0, ([(118 : UInt8)] : List UInt8), 5⟩ : api_Result)⟩ : api_Done)) fun t_186 =>
  if t_186.1 = true then (
  hocketlaw20_WaitTwice.J3 K true (⟨t_186.2.1, t_186.2.2⟩ : wait_Calls))
  else (
  Option.bind (wait_Calls_Waiting.f t_186.2.1 t_186.2.2) fun t_199 =>
  hocketlaw20_WaitTwice.J3 K (t_199 != 0) (⟨t_186.2.1, t_186.2.2⟩ : wait_Calls)))
  else (
  hocketlaw20_WaitTwice.J3 K true (⟨t_173.2.1, t_173.2.2⟩ : wait_Calls)))
def hocketlaw20_WaitTwice.J1 (K : Nat) (x1 : Bool) (x_20 : wait_Calls) : Option (Unit) :=
  if x1 = true then (
  Option.bind (wait_Calls_Next.f K x_20.l x_20.done 9) fun t_204 =>
  if (t_204.1.length : Int) = 0 then (
  hocketlaw20_WaitTwice.J2 K false (⟨t_204.2.1, t_204.2.2⟩ : wait_Calls))
  else (
  hocketlaw20_WaitTwice.J2 K true (⟨t_204.2.1, t_204.2.2⟩ : wait_Calls)))
  else (
  Option.bind (wait_Calls_Next.f K x_20.l x_20.done 9) fun t_221 =>
  hocketlaw20_WaitTwice.J2 K ((t_221.1.length : Int) != 1) (⟨t_221.2.1, t_221.2.2⟩ : wait_Calls))
def hocketlaw20_WaitTwice.J5 (K : Nat) (again_248 : Int × wait_Calls → Option (Unit)) (x_238 : Int) (x_271 : Bool) (x_272 : wait_Calls) : Option (Unit) :=
  if x_271 = true then (
  none)
  else (
  again_248 (w64 (x_238 + 1), x_272))
def hocketlaw20_WaitTwice.J4 (K : Nat) (x_238 : Int) (x1 : Bool) (again_248 : Int × wait_Calls → Option (Unit)) (x_256 : Bool) (x_257 : wait_Calls) : Option (Unit) :=
  if x_256 = true then (
  none)
  else (
  if x_238 = 0 then (
  if x1 = true then (
  Option.bind (wait_Calls_Next.f K x_257.l x_257.done 9) fun t_286 =>
  hocketlaw20_WaitTwice.J5 K again_248 x_238 ((t_286.1.length : Int) != 1) (⟨t_286.2.1, t_286.2.2⟩ : wait_Calls))
  else (
  hocketlaw20_WaitTwice.J5 K again_248 x_238 false x_257))
  else (
  hocketlaw20_WaitTwice.J5 K again_248 x_238 false x_257))
def hocketlaw20_WaitTwice.B1 (K : Nat) (x0 : Int) (x1 : Bool) (ex_248 : wait_Calls → Option (Unit)) (again_248 : Int × wait_Calls → Option (Unit)) (x_238 : Int) (x_239 : wait_Calls) : Option (Unit) :=
  if x_238 < (w64 ((band .i64 x0 7) + 1)) then (
  Option.bind (wait_Calls_Call.f K x_239.l x_239.done (⟨3, 4, (⟨1, 0, ([] : List UInt8), ([] : List UInt8), ([] : List UInt8)⟩ : api_Cmd)⟩ : api_Entry)) fun t_302 =>
  if t_302.1 = true then (
  Option.bind (wait_Calls_Waiting.f t_302.2.1 t_302.2.2) fun t_315 =>
  hocketlaw20_WaitTwice.J4 K x_238 x1 again_248 (t_315 != 1) (⟨t_302.2.1, t_302.2.2⟩ : wait_Calls))
  else (
  hocketlaw20_WaitTwice.J4 K x_238 x1 again_248 true (⟨t_302.2.1, t_302.2.2⟩ : wait_Calls)))
  else (
  ex_248 x_239)
def hocketlaw20_WaitTwice.L1 (K : Nat) (x0 : Int) (x1 : Bool) (ex_248 : wait_Calls → Option (Unit)) : Nat → Int × wait_Calls → Option (Unit) :=
  iter fun again v => hocketlaw20_WaitTwice.B1 K x0 x1 ex_248 again v.1 v.2
def hocketlaw20_WaitTwice.f (K : Nat) (x0 : Int) (x1 : Bool) : Option (Unit) :=
  Option.bind (wait_New.f) fun t_1 =>
  hocketlaw20_WaitTwice.L1 K x0 x1 (fun v => hocketlaw20_WaitTwice.J1 K x1 v) K (0, (⟨t_1.1, t_1.2⟩ : wait_Calls))

def hocketlaw20_WaitOwn.J3 (K : Nat) (t_61 : (List api_Entry) × (List wait_call) × (List api_Reply)) (t_25 : api_Entry) : Option (Unit) :=
  Option.bind (wait_Calls_Again.f K t_61.2.1 t_61.2.2) fun t_101 =>
  Option.bind (wait_Calls_Next.f K t_101.1 t_101.2 1) fun t_113 =>
  if (t_113.1.length : Int) = 1 then (
  Option.bind (ix t_113.1 0) fun t_132 =>
  Option.bind (hocketref4_SameEntry.f t_132 t_25) fun t_143 =>
  if t_143 = true then (
  Option.bind (hocketlaw20_awake.f K) fun t_148 =>
  some ())
  else (
  none))
  else (
  none)
def hocketlaw20_WaitOwn.B1 (K : Nat) (t_85 : api_Entry) (t_61 : (List api_Entry) × (List wait_call) × (List api_Reply)) (ex_156 : Unit → Option (Unit)) (again_156 : Int → Option (Unit)) (x_153 : Int) : Option (Unit) :=
  if x_153 < (t_85.Cmd.Val.length : Int) then (
  Option.bind (ix t_61.1 0) fun t_160 =>
  Option.bind (ix t_160.Cmd.Val x_153) fun t_171 =>
  Option.bind (ix t_160.Cmd.Val x_153) fun t_178 =>
  again_156 (w64 (x_153 + 1)))
  else (
  ex_156 ())
def hocketlaw20_WaitOwn.L1 (K : Nat) (t_85 : api_Entry) (t_61 : (List api_Entry) × (List wait_call) × (List api_Reply)) (ex_156 : Unit → Option (Unit)) : Nat → Int → Option (Unit) :=
  iter fun again v => hocketlaw20_WaitOwn.B1 K t_85 t_61 ex_156 again v
def hocketlaw20_WaitOwn.J2 (K : Nat) (t_61 : (List api_Entry) × (List wait_call) × (List api_Reply)) (t_25 : api_Entry) (x_80 : Bool) : Option (Unit) :=
  if x_80 = true then (
  none)
  else (
  Option.bind (ix t_61.1 0) fun t_85 =>
  hocketlaw20_WaitOwn.L1 K t_85 t_61 (fun v => hocketlaw20_WaitOwn.J3 K t_61 t_25) K 0)
def hocketlaw20_WaitOwn.J1 (K : Nat) (t_42 : Bool × (List wait_call) × (List api_Reply)) (t_25 : api_Entry) : Option (Unit) :=
  Option.bind (wait_Calls_Next.f K t_42.2.1 t_42.2.2 1) fun t_61 =>
  if (t_61.1.length : Int) = 1 then (
  Option.bind (ix t_61.1 0) fun t_188 =>
  Option.bind (hocketref4_SameEntry.f t_188 t_25) fun t_199 =>
  hocketlaw20_WaitOwn.J2 K t_61 t_25 (!t_199))
  else (
  hocketlaw20_WaitOwn.J2 K t_61 t_25 true)
def hocketlaw20_WaitOwn.B2 (K : Nat) (t_15 : api_Entry) (ex_207 : Unit → Option (Unit)) (again_207 : Int → Option (Unit)) (x_204 : Int) : Option (Unit) :=
  if x_204 < (t_15.Cmd.Val.length : Int) then (
  Option.bind (ix t_15.Cmd.Val x_204) fun t_211 =>
  Option.bind (ix t_15.Cmd.Val x_204) fun t_218 =>
  again_207 (w64 (x_204 + 1)))
  else (
  ex_207 ())
def hocketlaw20_WaitOwn.L2 (K : Nat) (t_15 : api_Entry) (ex_207 : Unit → Option (Unit)) : Nat → Int → Option (Unit) :=
  iter fun again v => hocketlaw20_WaitOwn.B2 K t_15 ex_207 again v
def hocketlaw20_WaitOwn.f (K : Nat) (x0 : Int) : Option (Unit) :=
  Option.bind (wait_New.f) fun t_1 =>
  Option.bind (hocketlaw10_Entry.f x0 5) fun t_15 =>
  Option.bind (hocketlaw10_Entry.f x0 5) fun t_25 =>
  Option.bind (wait_Calls_Call.f K t_1.1 t_1.2 t_15) fun t_42 =>
  if t_42.1 = true then (
  hocketlaw20_WaitOwn.L2 K t_15 (fun v => hocketlaw20_WaitOwn.J1 K t_42 t_25) K 0)
  else (
  none)
end Go.Gp
