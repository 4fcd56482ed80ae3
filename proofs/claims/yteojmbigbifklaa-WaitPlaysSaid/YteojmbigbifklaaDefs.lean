/- The functions that the law reaches, told plainly. -/
import Derived.Test.YteojmbigbifklaaLa
namespace Go.Gp
set_option linter.unusedVariables false
structure api_Result where
  Err : Int
  Val : List UInt8
  N : Int
  deriving DecidableEq
structure An_s_take_who_want_e_n where
  s : List Int
  take : Bool
  who : Int
  want : List Int
  e : Int
  n : Int
  deriving DecidableEq
structure api_Cmd where
  Kind : Int
  Who : Int
  Key : List UInt8
  Val : List UInt8
  Old : List UInt8
  deriving DecidableEq
structure api_Entry where
  Sess : Int
  Seq : Int
  Cmd : api_Cmd
  deriving DecidableEq
structure wait_call where
  e : api_Entry
  sent : Bool
  deriving DecidableEq
structure api_Reply where
  Sess : Int
  Seq : Int
  Result : api_Result
  deriving DecidableEq
structure api_Done where
  Index : Int
  Entry : api_Entry
  Result : api_Result
  deriving DecidableEq
structure hocketref15_call where
  e : api_Entry
  sent : Bool
  deriving DecidableEq
structure wait_Calls where
  l : List wait_call
  done : List api_Reply
  deriving DecidableEq
structure hocketref15_Calls where
  l : List hocketref15_call
  r : List api_Reply
  deriving DecidableEq
def ok_api_Result (x : api_Result) : Prop := i64ok x.Err ∧ (x.Val.length ≤ 140737488351232 ∧ ∀ z ∈ x.Val, True) ∧ i64ok x.N
def ok_An_s_take_who_want_e_n (x : An_s_take_who_want_e_n) : Prop := (x.s.length ≤ 140737488351232 ∧ ∀ z ∈ x.s, i64ok z) ∧ True ∧ i64ok x.who ∧ (x.want.length ≤ 140737488351232 ∧ ∀ z ∈ x.want, i64ok z) ∧ i64ok x.e ∧ i64ok x.n
def ok_api_Cmd (x : api_Cmd) : Prop := i64ok x.Kind ∧ i64ok x.Who ∧ (x.Key.length ≤ 140737488351232 ∧ ∀ z ∈ x.Key, True) ∧ (x.Val.length ≤ 140737488351232 ∧ ∀ z ∈ x.Val, True) ∧ (x.Old.length ≤ 140737488351232 ∧ ∀ z ∈ x.Old, True)
def ok_api_Entry (x : api_Entry) : Prop := i64ok x.Sess ∧ i64ok x.Seq ∧ ok_api_Cmd x.Cmd
def ok_wait_call (x : wait_call) : Prop := ok_api_Entry x.e ∧ True
def ok_api_Reply (x : api_Reply) : Prop := i64ok x.Sess ∧ i64ok x.Seq ∧ ok_api_Result x.Result
def ok_api_Done (x : api_Done) : Prop := i64ok x.Index ∧ ok_api_Entry x.Entry ∧ ok_api_Result x.Result
def ok_hocketref15_call (x : hocketref15_call) : Prop := ok_api_Entry x.e ∧ True
def ok_wait_Calls (x : wait_Calls) : Prop := (x.l.length ≤ 140737488351232 ∧ ∀ z ∈ x.l, ok_wait_call z) ∧ (x.done.length ≤ 140737488351232 ∧ ∀ z ∈ x.done, ok_api_Reply z)
def ok_hocketref15_Calls (x : hocketref15_Calls) : Prop := (x.l.length ≤ 140737488351232 ∧ ∀ z ∈ x.l, ok_hocketref15_call z) ∧ (x.r.length ≤ 140737488351232 ∧ ∀ z ∈ x.r, ok_api_Reply z)
def hocketref4_SameResult.f (x0 : api_Result) (x1 : api_Result) : Option (Bool) :=
  if x0.Err = x1.Err then (
  if x0.Val = x1.Val then (
  some (x0.N == x1.N))
  else (
  some false))
  else (
  some false)

def wait_New.f : Option ((List wait_call) × (List api_Reply)) :=
  some (([] : List wait_call), ([] : List api_Reply))

def slices_Clone_sbyte_byte.f (x0 : List UInt8) : Option (List UInt8) :=
  app 140737488355328 ([] : List UInt8) x0

def mach_StillEntry.f (x0 : api_Entry) : Option (api_Entry) :=
  Option.bind (slices_Clone_sbyte_byte.f x0.Cmd.Key) fun t_7 =>
  Option.bind (slices_Clone_sbyte_byte.f x0.Cmd.Val) fun t_15 =>
  Option.bind (slices_Clone_sbyte_byte.f x0.Cmd.Old) fun t_23 =>
  some (⟨x0.Sess, x0.Seq, (⟨x0.Cmd.Kind, x0.Cmd.Who, t_7, t_15, t_23⟩ : api_Cmd)⟩ : api_Entry)

def wait_Calls_Waiting.f (x0_l : List wait_call) (x0_done : List api_Reply) : Option (Int) :=
  some (x0_l.length : Int)

def wait_Calls_Next.J1 (K : Nat) (x0_done : List api_Reply) (x_3 : List api_Entry) (x_8 : List wait_call) : Option ((List api_Entry) × (List wait_call) × (List api_Reply)) :=
  some (x_3, x_8, x0_done)
def wait_Calls_Next.J2 (K : Nat) (x_21 : List wait_call) (x_26 : Int) (t_34 : wait_call) (x_16 : List api_Entry) (again_28 : (List api_Entry) × (List wait_call) × Int → Option ((List api_Entry) × (List wait_call) × (List api_Reply))) (x_50 : Bool) : Option ((List api_Entry) × (List wait_call) × (List api_Reply)) :=
  if x_50 = true then (
  Option.bind (ix x_21 x_26) fun t_54 =>
  Option.bind (mach_StillEntry.f t_34.e) fun t_67 =>
  Option.bind (app 1353245080339 x_16 ([t_67] : List api_Entry)) fun t_92 =>
  again_28 (t_92, (x_21.set (x_26).toNat (⟨t_54.e, true⟩ : wait_call)), w64 (x_26 + 1)))
  else (
  again_28 (x_16, x_21, w64 (x_26 + 1)))
def wait_Calls_Next.B1 (K : Nat) (x0_l : List wait_call) (x1 : Int) (ex_28 : (List api_Entry) × (List wait_call) → Option ((List api_Entry) × (List wait_call) × (List api_Reply))) (again_28 : (List api_Entry) × (List wait_call) × Int → Option ((List api_Entry) × (List wait_call) × (List api_Reply))) (x_16 : List api_Entry) (x_21 : List wait_call) (x_26 : Int) : Option ((List api_Entry) × (List wait_call) × (List api_Reply)) :=
  if x_26 < (x0_l.length : Int) then (
  Option.bind (ix x_21 x_26) fun t_34 =>
  if t_34.sent = true then (
  wait_Calls_Next.J2 K x_21 x_26 t_34 x_16 again_28 false)
  else (
  wait_Calls_Next.J2 K x_21 x_26 t_34 x_16 again_28 (decide ((x_16.length : Int) < x1))))
  else (
  ex_28 (x_16, x_21))
def wait_Calls_Next.L1 (K : Nat) (x0_l : List wait_call) (x1 : Int) (ex_28 : (List api_Entry) × (List wait_call) → Option ((List api_Entry) × (List wait_call) × (List api_Reply))) : Nat → (List api_Entry) × (List wait_call) × Int → Option ((List api_Entry) × (List wait_call) × (List api_Reply)) :=
  iter fun again v => wait_Calls_Next.B1 K x0_l x1 ex_28 again v.1 v.2.1 v.2.2
def wait_Calls_Next.f (K : Nat) (x0_l : List wait_call) (x0_done : List api_Reply) (x1 : Int) : Option ((List api_Entry) × (List wait_call) × (List api_Reply)) :=
  wait_Calls_Next.L1 K x0_l x1 (fun v => wait_Calls_Next.J1 K x0_done v.1 v.2) K (([] : List api_Entry), x0_l, 0)

def slices_Delete_shocket_wait_call_hocket_wait_call.f (x0 : List wait_call) (x1 : Int) (x2 : Int) : Option ((List wait_call)) :=
  Option.bind (must (0 ≤ x1 ∧ x1 ≤ x2 ∧ x2 ≤ (x0.length : Int))) fun u_1 =>
  if x1 = x2 then (
  some x0)
  else (
  some (x0.take (x1).toNat ++ x0.drop (x2).toNat))



def wait_Calls_Take.f (x0_l : List wait_call) (x0_done : List api_Reply) : Option ((List api_Reply) × (List wait_call) × (List api_Reply)) :=
  some (x0_done, x0_l, ([] : List api_Reply))

def wait_Calls_Again.J1 (K : Nat) (x0_done : List api_Reply) (x_3 : List wait_call) : Option ((List wait_call) × (List api_Reply)) :=
  some (x_3, x0_done)
def wait_Calls_Again.B1 (K : Nat) (x0_l : List wait_call) (ex_17 : (List wait_call) → Option ((List wait_call) × (List api_Reply))) (again_17 : Int × (List wait_call) → Option ((List wait_call) × (List api_Reply))) (x_11 : Int) (x_12 : List wait_call) : Option ((List wait_call) × (List api_Reply)) :=
  if x_11 < (x0_l.length : Int) then (
  Option.bind (ix x_12 x_11) fun t_21 =>
  again_17 (w64 (x_11 + 1), (x_12.set (x_11).toNat (⟨t_21.e, false⟩ : wait_call))))
  else (
  ex_17 x_12)
def wait_Calls_Again.L1 (K : Nat) (x0_l : List wait_call) (ex_17 : (List wait_call) → Option ((List wait_call) × (List api_Reply))) : Nat → Int × (List wait_call) → Option ((List wait_call) × (List api_Reply)) :=
  iter fun again v => wait_Calls_Again.B1 K x0_l ex_17 again v.1 v.2
def wait_Calls_Again.f (K : Nat) (x0_l : List wait_call) (x0_done : List api_Reply) : Option ((List wait_call) × (List api_Reply)) :=
  wait_Calls_Again.L1 K x0_l (fun v => wait_Calls_Again.J1 K x0_done v) K (0, x0_l)

def hocketlaw7_Keys.f (x0 : Int) : Option ((List UInt8)) :=
  Option.bind (ix ([([] : List UInt8), ([97] : List UInt8), ([98] : List UInt8), ([99] : List UInt8), ([97, 98] : List UInt8), ([97, 98, 99] : List UInt8), ([122] : List UInt8), ([0] : List UInt8), ([255] : List UInt8), ([97, 98, 99, 100, 101, 102, 103, 104] : List UInt8), ([97, 98, 99, 100, 101, 102, 103, 104, 105] : List UInt8), ([107, 49] : List UInt8), ([107, 50] : List UInt8), ([107, 51] : List UInt8), ([107, 52] : List UInt8), ([107, 53] : List UInt8)] : List (List UInt8)) (band .i64 x0 15)) fun t_7 =>
  Option.bind (must (t_7.length ≤ 9223372036854775807)) fun u_12 =>
  some t_7

def hocketlaw8_Cmd.J3 (x0 : Int) (x_23 : api_Cmd) (x_39 : Int) : Option (api_Cmd) :=
  if (band .i64 (shr .i64 x0 19) 31) = 0 then (
  some (⟨band .i64 (shr .i64 x0 24) 31, w64 ((band .i64 (shr .i64 x0 17) 2047) - 20), x_23.Key, x_23.Val, x_23.Old⟩ : api_Cmd))
  else (
  some (⟨x_39, x_23.Who, x_23.Key, x_23.Val, x_23.Old⟩ : api_Cmd))
def hocketlaw8_Cmd.J2 (x0 : Int) (x_23 : api_Cmd) (x_35 : Bool) : Option (api_Cmd) :=
  if x_35 = true then (
  Option.bind (ix ([1, 2, 4, 9] : List Int) (band .i64 (shr .i64 x0 17) 3)) fun t_55 =>
  hocketlaw8_Cmd.J3 x0 x_23 t_55)
  else (
  hocketlaw8_Cmd.J3 x0 x_23 x_23.Kind)
def hocketlaw8_Cmd.J1 (x0 : Int) (x_23 : api_Cmd) : Option (api_Cmd) :=
  if x_23.Kind = 0 then (
  hocketlaw8_Cmd.J2 x0 x_23 true)
  else (
  hocketlaw8_Cmd.J2 x0 x_23 (x_23.Kind == 12))
def hocketlaw8_Cmd.f (x0 : Int) : Option (api_Cmd) :=
  Option.bind (ix ([([] : List UInt8), ([97] : List UInt8), ([98] : List UInt8), ([97, 98] : List UInt8), ([118, 97, 108, 117, 101] : List UInt8), ([48, 49, 50, 51, 52, 53, 54, 55, 56, 57, 97, 98, 99, 100, 101, 102] : List UInt8), ([48, 49, 50, 51, 52, 53, 54, 55, 56, 57, 97, 98, 99, 100, 101, 102, 103] : List UInt8), ([0, 255] : List UInt8)] : List (List UInt8)) (band .i64 (shr .i64 x0 5) 7)) fun t_9 =>
  Option.bind (must (t_9.length ≤ 9223372036854775807)) fun u_14 =>
  Option.bind (hocketlaw7_Keys.f (shr .i64 x0 11)) fun t_63 =>
  Option.bind (ix ([([] : List UInt8), ([97] : List UInt8), ([98] : List UInt8), ([97, 98] : List UInt8)] : List (List UInt8)) (band .i64 (shr .i64 x0 15) 3)) fun t_75 =>
  Option.bind (must (t_75.length ≤ 9223372036854775807)) fun u_80 =>
  hocketlaw8_Cmd.J1 x0 (⟨w64 ((Int.tmod (band .i64 x0 31) 13) + 0), band .i64 (shr .i64 x0 8) 7, t_63, t_9, t_75⟩ : api_Cmd)

def hocketlaw10_Entry.f (x0 : Int) (x1 : Int) : Option (api_Entry) :=
  Option.bind (hocketlaw8_Cmd.f x0) fun t_3 =>
  some (⟨w64 ((Int.tmod (band .i64 (shr .i64 x0 25) 7) 6) + 1), w64 ((w64 ((w64 (Int.tdiv x1 3)) + (band .i64 (shr .i64 x0 28) 1))) + 1), t_3⟩ : api_Entry)

def hocketref4_SameEntry.f (x0 : api_Entry) (x1 : api_Entry) : Option (Bool) :=
  if x0.Sess = x1.Sess then (
  if x0.Seq = x1.Seq then (
  if x0.Cmd.Kind = x1.Cmd.Kind then (
  if x0.Cmd.Who = x1.Cmd.Who then (
  if x0.Cmd.Key = x1.Cmd.Key then (
  if x0.Cmd.Val = x1.Cmd.Val then (
  some (x0.Cmd.Old == x1.Cmd.Old))
  else (
  some false))
  else (
  some false))
  else (
  some false))
  else (
  some false))
  else (
  some false))
  else (
  some false)

def hocketref15_Calls_Call.J1 (K : Nat) (x0_l : List hocketref15_call) (x0_r : List api_Reply) (x1 : api_Entry) : Option (Bool × (List hocketref15_call) × (List api_Reply)) :=
  if (x0_l.length : Int) ≥ 8 then (
  some (false, x0_l, x0_r))
  else (
  Option.bind (app 1256584717458 ([] : List hocketref15_call) x0_l) fun t_17 =>
  Option.bind (app 1256584717458 t_17 ([(⟨x1, false⟩ : hocketref15_call)] : List hocketref15_call)) fun t_29 =>
  some (true, t_29, x0_r))
def hocketref15_Calls_Call.J2 (K : Nat) (x0_l : List hocketref15_call) (x0_r : List api_Reply) (again_189 : Int → Option (Bool × (List hocketref15_call) × (List api_Reply))) (x_188 : Int) (x_196 : Bool) : Option (Bool × (List hocketref15_call) × (List api_Reply)) :=
  if x_196 = true then (
  some (true, x0_l, x0_r))
  else (
  again_189 (w64 (x_188 + 1)))
def hocketref15_Calls_Call.B1 (K : Nat) (x0_l : List hocketref15_call) (x1 : api_Entry) (x0_r : List api_Reply) (ex_189 : Unit → Option (Bool × (List hocketref15_call) × (List api_Reply))) (again_189 : Int → Option (Bool × (List hocketref15_call) × (List api_Reply))) (x_188 : Int) : Option (Bool × (List hocketref15_call) × (List api_Reply)) :=
  if x_188 < (x0_l.length : Int) then (
  Option.bind (ix x0_l x_188) fun t_201 =>
  if t_201.e.Sess = x1.Sess then (
  Option.bind (ix x0_l x_188) fun t_213 =>
  hocketref15_Calls_Call.J2 K x0_l x0_r again_189 x_188 (t_213.e.Seq == x1.Seq))
  else (
  hocketref15_Calls_Call.J2 K x0_l x0_r again_189 x_188 false))
  else (
  ex_189 ())
def hocketref15_Calls_Call.L1 (K : Nat) (x0_l : List hocketref15_call) (x1 : api_Entry) (x0_r : List api_Reply) (ex_189 : Unit → Option (Bool × (List hocketref15_call) × (List api_Reply))) : Nat → Int → Option (Bool × (List hocketref15_call) × (List api_Reply)) :=
  iter fun again v => hocketref15_Calls_Call.B1 K x0_l x1 x0_r ex_189 again v
def hocketref15_Calls_Call.f (K : Nat) (x0_l : List hocketref15_call) (x0_r : List api_Reply) (x1 : api_Entry) : Option (Bool × (List hocketref15_call) × (List api_Reply)) :=
  hocketref15_Calls_Call.L1 K x0_l x1 x0_r (fun v => hocketref15_Calls_Call.J1 K x0_l x0_r x1) K 0

def hocketref4_SameEntries.J1 (K : Nat) : Option (Bool) :=
  some true
def hocketref4_SameEntries.B1 (K : Nat) (x0 : List api_Entry) (x1 : List api_Entry) (ex_9 : Unit → Option (Bool)) (again_9 : Int → Option (Bool)) (x_8 : Int) : Option (Bool) :=
  if x_8 < (x0.length : Int) then (
  Option.bind (ix x0 x_8) fun t_16 =>
  Option.bind (ix x1 x_8) fun t_27 =>
  Option.bind (hocketref4_SameEntry.f t_16 t_27) fun t_38 =>
  if t_38 = true then (
  again_9 (w64 (x_8 + 1)))
  else (
  some false))
  else (
  ex_9 ())
def hocketref4_SameEntries.L1 (K : Nat) (x0 : List api_Entry) (x1 : List api_Entry) (ex_9 : Unit → Option (Bool)) : Nat → Int → Option (Bool) :=
  iter fun again v => hocketref4_SameEntries.B1 K x0 x1 ex_9 again v
def hocketref4_SameEntries.f (K : Nat) (x0 : List api_Entry) (x1 : List api_Entry) : Option (Bool) :=
  if (x0.length : Int) = (x1.length : Int) then (
  hocketref4_SameEntries.L1 K x0 x1 (fun v => hocketref4_SameEntries.J1 K) K 0)
  else (
  some false)

def hocketref15_Calls_Next.J1 (K : Nat) (x0_r : List api_Reply) (x_3 : List api_Entry) (x_8 : List hocketref15_call) : Option ((List api_Entry) × (List hocketref15_call) × (List api_Reply)) :=
  some (x_3, x_8, x0_r)
def hocketref15_Calls_Next.J2 (K : Nat) (x_22 : List hocketref15_call) (x_21 : Int) (again_27 : (List api_Entry) × Int × (List hocketref15_call) → Option ((List api_Entry) × (List hocketref15_call) × (List api_Reply))) (x_16 : List api_Entry) (ex_27 : (List api_Entry) × (List hocketref15_call) → Option ((List api_Entry) × (List hocketref15_call) × (List api_Reply))) (x_33 : Bool) : Option ((List api_Entry) × (List hocketref15_call) × (List api_Reply)) :=
  if x_33 = true then (
  Option.bind (ix x_22 x_21) fun t_38 =>
  if t_38.sent = true then (
  again_27 (x_16, w64 (x_21 + 1), x_22))
  else (
  Option.bind (ix x_22 x_21) fun t_50 =>
  Option.bind (ix (x_22.set (x_21).toNat (⟨t_50.e, true⟩ : hocketref15_call)) x_21) fun t_63 =>
  Option.bind (app 1353245080339 x_16 ([t_63.e] : List api_Entry)) fun t_80 =>
  again_27 (t_80, w64 (x_21 + 1), (x_22.set (x_21).toNat (⟨t_50.e, true⟩ : hocketref15_call)))))
  else (
  ex_27 (x_16, x_22))
def hocketref15_Calls_Next.B1 (K : Nat) (x1 : Int) (ex_27 : (List api_Entry) × (List hocketref15_call) → Option ((List api_Entry) × (List hocketref15_call) × (List api_Reply))) (again_27 : (List api_Entry) × Int × (List hocketref15_call) → Option ((List api_Entry) × (List hocketref15_call) × (List api_Reply))) (x_16 : List api_Entry) (x_21 : Int) (x_22 : List hocketref15_call) : Option ((List api_Entry) × (List hocketref15_call) × (List api_Reply)) :=
  if x_21 < (x_22.length : Int) then (
  hocketref15_Calls_Next.J2 K x_22 x_21 again_27 x_16 ex_27 (decide ((x_16.length : Int) < x1)))
  else (
  hocketref15_Calls_Next.J2 K x_22 x_21 again_27 x_16 ex_27 false)
def hocketref15_Calls_Next.L1 (K : Nat) (x1 : Int) (ex_27 : (List api_Entry) × (List hocketref15_call) → Option ((List api_Entry) × (List hocketref15_call) × (List api_Reply))) : Nat → (List api_Entry) × Int × (List hocketref15_call) → Option ((List api_Entry) × (List hocketref15_call) × (List api_Reply)) :=
  iter fun again v => hocketref15_Calls_Next.B1 K x1 ex_27 again v.1 v.2.1 v.2.2
def hocketref15_Calls_Next.f (K : Nat) (x0_l : List hocketref15_call) (x0_r : List api_Reply) (x1 : Int) : Option ((List api_Entry) × (List hocketref15_call) × (List api_Reply)) :=
  hocketref15_Calls_Next.L1 K x1 (fun v => hocketref15_Calls_Next.J1 K x0_r v.1 v.2) K (([] : List api_Entry), 0, x0_l)

def hocketref15_Calls_Done.J1 (K : Nat) (x0_l : List hocketref15_call) (x0_r : List api_Reply) : Option (Bool × (List hocketref15_call) × (List api_Reply)) :=
  some (false, x0_l, x0_r)
def hocketref15_Calls_Done.J4 (K : Nat) (x_22 : List hocketref15_call) (x_31 : List api_Reply) : Option (Bool × (List hocketref15_call) × (List api_Reply)) :=
  some (true, x_22, x_31)
def hocketref15_Calls_Done.J3 (K : Nat) (x0_r : List api_Reply) (x1 : api_Done) (x_22 : List hocketref15_call) : Option (Bool × (List hocketref15_call) × (List api_Reply)) :=
  Option.bind (app 2513169434916 x0_r ([(⟨x1.Entry.Sess, x1.Entry.Seq, x1.Result⟩ : api_Reply)] : List api_Reply)) fun t_45 =>
  hocketref15_Calls_Done.J4 K x_22 t_45
def hocketref15_Calls_Done.J2 (K : Nat) (x0_l : List hocketref15_call) (x_8 : Int) (x0_r : List api_Reply) (x1 : api_Done) (again_9 : Int → Option (Bool × (List hocketref15_call) × (List api_Reply))) (x_16 : Bool) : Option (Bool × (List hocketref15_call) × (List api_Reply)) :=
  if x_16 = true then (
  Option.bind (cut x0_l 0 x_8) fun t_74 =>
  Option.bind (app 1256584717458 ([] : List hocketref15_call) t_74) fun t_77 =>
  Option.bind (cut x0_l (w64 (x_8 + 1)) (x0_l.length : Int)) fun t_83 =>
  Option.bind (app 1256584717458 t_77 t_83) fun t_86 =>
  hocketref15_Calls_Done.J3 K x0_r x1 t_86)
  else (
  again_9 (w64 (x_8 + 1)))
def hocketref15_Calls_Done.B1 (K : Nat) (x0_l : List hocketref15_call) (x1 : api_Done) (x0_r : List api_Reply) (ex_9 : Unit → Option (Bool × (List hocketref15_call) × (List api_Reply))) (again_9 : Int → Option (Bool × (List hocketref15_call) × (List api_Reply))) (x_8 : Int) : Option (Bool × (List hocketref15_call) × (List api_Reply)) :=
  if x_8 < (x0_l.length : Int) then (
  Option.bind (ix x0_l x_8) fun t_239 =>
  if t_239.e.Sess = x1.Entry.Sess then (
  Option.bind (ix x0_l x_8) fun t_251 =>
  hocketref15_Calls_Done.J2 K x0_l x_8 x0_r x1 again_9 (t_251.e.Seq == x1.Entry.Seq))
  else (
  hocketref15_Calls_Done.J2 K x0_l x_8 x0_r x1 again_9 false))
  else (
  ex_9 ())
def hocketref15_Calls_Done.L1 (K : Nat) (x0_l : List hocketref15_call) (x1 : api_Done) (x0_r : List api_Reply) (ex_9 : Unit → Option (Bool × (List hocketref15_call) × (List api_Reply))) : Nat → Int → Option (Bool × (List hocketref15_call) × (List api_Reply)) :=
  iter fun again v => hocketref15_Calls_Done.B1 K x0_l x1 x0_r ex_9 again v
def hocketref15_Calls_Done.f (K : Nat) (x0_l : List hocketref15_call) (x0_r : List api_Reply) (x1 : api_Done) : Option (Bool × (List hocketref15_call) × (List api_Reply)) :=
  hocketref15_Calls_Done.L1 K x0_l x1 x0_r (fun v => hocketref15_Calls_Done.J1 K x0_l x0_r) K 0

def hocketref15_Calls_Again.J1 (K : Nat) (x0_r : List api_Reply) (x_3 : List hocketref15_call) : Option ((List hocketref15_call) × (List api_Reply)) :=
  some (x_3, x0_r)
def hocketref15_Calls_Again.B1 (K : Nat) (ex_17 : (List hocketref15_call) → Option ((List hocketref15_call) × (List api_Reply))) (again_17 : Int × (List hocketref15_call) → Option ((List hocketref15_call) × (List api_Reply))) (x_11 : Int) (x_12 : List hocketref15_call) : Option ((List hocketref15_call) × (List api_Reply)) :=
  if x_11 < (x_12.length : Int) then (
  Option.bind (ix x_12 x_11) fun t_21 =>
  again_17 (w64 (x_11 + 1), (x_12.set (x_11).toNat (⟨t_21.e, false⟩ : hocketref15_call))))
  else (
  ex_17 x_12)
def hocketref15_Calls_Again.L1 (K : Nat) (ex_17 : (List hocketref15_call) → Option ((List hocketref15_call) × (List api_Reply))) : Nat → Int × (List hocketref15_call) → Option ((List hocketref15_call) × (List api_Reply)) :=
  iter fun again v => hocketref15_Calls_Again.B1 K ex_17 again v.1 v.2
def hocketref15_Calls_Again.f (K : Nat) (x0_l : List hocketref15_call) (x0_r : List api_Reply) : Option ((List hocketref15_call) × (List api_Reply)) :=
  hocketref15_Calls_Again.L1 K (fun v => hocketref15_Calls_Again.J1 K x0_r v) K (0, x0_l)

def hocketref15_SameReplies.J1 (K : Nat) : Option (Bool) :=
  some true
def hocketref15_SameReplies.J2 (K : Nat) (again_9 : Int → Option (Bool)) (x_8 : Int) (x_16 : Bool) : Option (Bool) :=
  if x_16 = true then (
  some false)
  else (
  again_9 (w64 (x_8 + 1)))
def hocketref15_SameReplies.B1 (K : Nat) (x0 : List api_Reply) (x1 : List api_Reply) (ex_9 : Unit → Option (Bool)) (again_9 : Int → Option (Bool)) (x_8 : Int) : Option (Bool) :=
  if x_8 < (x0.length : Int) then (
  Option.bind (ix x0 x_8) fun t_21 =>
  Option.bind (ix x1 x_8) fun t_28 =>
  if t_21.Sess = t_28.Sess then (
  Option.bind (ix x0 x_8) fun t_36 =>
  Option.bind (ix x1 x_8) fun t_43 =>
  if t_36.Seq = t_43.Seq then (
  Option.bind (ix x0 x_8) fun t_51 =>
  Option.bind (ix x1 x_8) fun t_58 =>
  Option.bind (hocketref4_SameResult.f t_51.Result t_58.Result) fun t_65 =>
  hocketref15_SameReplies.J2 K again_9 x_8 (!t_65))
  else (
  hocketref15_SameReplies.J2 K again_9 x_8 true))
  else (
  hocketref15_SameReplies.J2 K again_9 x_8 true))
  else (
  ex_9 ())
def hocketref15_SameReplies.L1 (K : Nat) (x0 : List api_Reply) (x1 : List api_Reply) (ex_9 : Unit → Option (Bool)) : Nat → Int → Option (Bool) :=
  iter fun again v => hocketref15_SameReplies.B1 K x0 x1 ex_9 again v
def hocketref15_SameReplies.f (K : Nat) (x0 : List api_Reply) (x1 : List api_Reply) : Option (Bool) :=
  if (x0.length : Int) = (x1.length : Int) then (
  hocketref15_SameReplies.L1 K x0 x1 (fun v => hocketref15_SameReplies.J1 K) K 0)
  else (
  some false)

def hocketref15_Calls_Take.f (x0_l : List hocketref15_call) (x0_r : List api_Reply) : Option ((List api_Reply) × (List hocketref15_call) × (List api_Reply)) :=
  some (x0_r, x0_l, ([] : List api_Reply))

def hocketref15_Calls_Waiting.f (x0_l : List hocketref15_call) (x0_r : List api_Reply) : Option (Int) :=
  some (x0_l.length : Int)

def wait_Calls_find_1.f (x0 : wait_call) (x1_Sess : Int) (x1_Seq : Int) (x1_Cmd_Kind : Int) (x1_Cmd_Who : Int) (x1_Cmd_Key : List UInt8) (x1_Cmd_Val : List UInt8) (x1_Cmd_Old : List UInt8) : Option (Bool) :=
  if x0.e.Sess = x1_Sess then (
  some (x0.e.Seq == x1_Seq))
  else (
  some false)

def slices_IndexFunc_shocket_wait_call_hocket_wait_call_53.J1 (K : Nat) : Option (Int) :=
  some (-1)
def slices_IndexFunc_shocket_wait_call_hocket_wait_call_53.B1 (K : Nat) (x0 : List wait_call) (x2_Sess : Int) (x2_Seq : Int) (x2_Cmd_Kind : Int) (x2_Cmd_Who : Int) (x2_Cmd_Key : List UInt8) (x2_Cmd_Val : List UInt8) (x2_Cmd_Old : List UInt8) (ex_7 : Unit → Option (Int)) (again_7 : Int → Option (Int)) (x_6 : Int) : Option (Int) :=
  if x_6 < (x0.length : Int) then (
  Option.bind (ix x0 x_6) fun t_12 =>
  Option.bind (wait_Calls_find_1.f t_12 x2_Sess x2_Seq x2_Cmd_Kind x2_Cmd_Who x2_Cmd_Key x2_Cmd_Val x2_Cmd_Old) fun t_23 =>
  if t_23 = true then (
  some x_6)
  else (
  again_7 (w64 (x_6 + 1))))
  else (
  ex_7 ())
def slices_IndexFunc_shocket_wait_call_hocket_wait_call_53.L1 (K : Nat) (x0 : List wait_call) (x2_Sess : Int) (x2_Seq : Int) (x2_Cmd_Kind : Int) (x2_Cmd_Who : Int) (x2_Cmd_Key : List UInt8) (x2_Cmd_Val : List UInt8) (x2_Cmd_Old : List UInt8) (ex_7 : Unit → Option (Int)) : Nat → Int → Option (Int) :=
  iter fun again v => slices_IndexFunc_shocket_wait_call_hocket_wait_call_53.B1 K x0 x2_Sess x2_Seq x2_Cmd_Kind x2_Cmd_Who x2_Cmd_Key x2_Cmd_Val x2_Cmd_Old ex_7 again v
def slices_IndexFunc_shocket_wait_call_hocket_wait_call_53.f (K : Nat) (x0 : List wait_call) (x2_Sess : Int) (x2_Seq : Int) (x2_Cmd_Kind : Int) (x2_Cmd_Who : Int) (x2_Cmd_Key : List UInt8) (x2_Cmd_Val : List UInt8) (x2_Cmd_Old : List UInt8) : Option (Int) :=
  slices_IndexFunc_shocket_wait_call_hocket_wait_call_53.L1 K x0 x2_Sess x2_Seq x2_Cmd_Kind x2_Cmd_Who x2_Cmd_Key x2_Cmd_Val x2_Cmd_Old (fun v => slices_IndexFunc_shocket_wait_call_hocket_wait_call_53.J1 K) K 0

def wait_Calls_find.f (K : Nat) (x0_l : List wait_call) (x0_done : List api_Reply) (x1 : api_Entry) : Option (Int) :=
  Option.bind (slices_IndexFunc_shocket_wait_call_hocket_wait_call_53.f K x0_l x1.Sess x1.Seq x1.Cmd.Kind x1.Cmd.Who x1.Cmd.Key x1.Cmd.Val x1.Cmd.Old) fun t_3 =>
  some t_3

def wait_Calls_Call.f (K : Nat) (x0_l : List wait_call) (x0_done : List api_Reply) (x1 : api_Entry) : Option (Bool × (List wait_call) × (List api_Reply)) :=
  Option.bind (wait_Calls_find.f K x0_l x0_done x1) fun t_4 =>
  if t_4 ≥ 0 then (
  some (true, x0_l, x0_done))
  else (
  if (x0_l.length : Int) ≥ 8 then (
  some (false, x0_l, x0_done))
  else (
  Option.bind (mach_StillEntry.f x1) fun t_12 =>
  Option.bind (app 1256584717458 x0_l ([(⟨t_12, false⟩ : wait_call)] : List wait_call)) fun t_37 =>
  some (true, t_37, x0_done)))

def wait_Calls_Done.f (K : Nat) (x0_l : List wait_call) (x0_done : List api_Reply) (x1 : api_Done) : Option (Bool × (List wait_call) × (List api_Reply)) :=
  Option.bind (wait_Calls_find.f K x0_l x0_done x1.Entry) fun t_3 =>
  if t_3 < 0 then (
  some (false, x0_l, x0_done))
  else (
  Option.bind (slices_Delete_shocket_wait_call_hocket_wait_call.f x0_l t_3 (w64 (t_3 + 1))) fun t_9 =>
  Option.bind (slices_Clone_sbyte_byte.f x1.Result.Val) fun t_22 =>
  Option.bind (app 2513169434916 x0_done ([(⟨x1.Entry.Sess, x1.Entry.Seq, (⟨x1.Result.Err, t_22, x1.Result.N⟩ : api_Result)⟩ : api_Reply)] : List api_Reply)) fun t_40 =>
  some (true, t_9, t_40))

def hocketlaw20_awake.f (K : Nat) : Option (Unit) :=
  Option.bind (wait_New.f) fun t_1 =>
  Option.bind (wait_Calls_Call.f K t_1.1 t_1.2 (⟨1, 2, (⟨1, 0, ([] : List UInt8), ([] : List UInt8), ([] : List UInt8)⟩ : api_Cmd)⟩ : api_Entry)) fun t_20 =>
  Option.bind (wait_Calls_Call.f K t_20.2.1 t_20.2.2 (⟨1, 2, (⟨1, 0, ([] : List UInt8), ([] : List UInt8), ([] : List UInt8)⟩ : api_Cmd)⟩ : api_Entry)) fun t_32 =>
  Option.bind (wait_Calls_Next.f K t_32.2.1 t_32.2.2 5) fun t_44 =>
  Option.bind (wait_Calls_Next.f K t_44.2.1 t_44.2.2 5) fun t_60 =>
  Option.bind (wait_Calls_Again.f K t_60.2.1 t_60.2.2) fun t_76 =>
  Option.bind (wait_Calls_Next.f K t_76.1 t_76.2 5) fun t_88 =>
  Option.bind (wait_Calls_Done.f K t_88.2.1 t_88.2.2 (⟨4, (⟨1, 2, (⟨1, 0, ([] : List UInt8), ([] : List UInt8), ([] : List UInt8)⟩ : api_Cmd)⟩ : api_Entry), (⟨0, ([] : List UInt8), 9⟩ : api_Result)⟩ : api_Done)) fun t_104 =>
  Option.bind (wait_Calls_Done.f K t_104.2.1 t_104.2.2 (⟨0, (⟨1, 2, (⟨1, 0, ([] : List UInt8), ([] : List UInt8), ([] : List UInt8)⟩ : api_Cmd)⟩ : api_Entry), (⟨0, ([] : List UInt8), 0⟩ : api_Result)⟩ : api_Done)) fun t_116 =>
  Option.bind (wait_Calls_Take.f t_116.2.1 t_116.2.2) fun t_128 =>
  if t_20.1 = true then (
  if t_32.1 = true then (
  if (t_44.1.length : Int) = 1 then (
  if (t_60.1.length : Int) = 0 then (
  if (t_88.1.length : Int) = 1 then (
  if t_104.1 = true then (
  if t_116.1 = true then (
  none)
  else (
  if (t_128.1.length : Int) = 1 then (
  Option.bind (ix t_128.1 0) fun t_153 =>
  if t_153.Result.N = 9 then (
  Option.bind (wait_Calls_Take.f t_128.2.1 t_128.2.2) fun t_161 =>
  if (t_161.1.length : Int) = 0 then (
  Option.bind (wait_Calls_Waiting.f t_161.2.1 t_161.2.2) fun t_178 =>
  if t_178 = 0 then (
  some ())
  else (
  none))
  else (
  none))
  else (
  none))
  else (
  none)))
  else (
  none))
  else (
  none))
  else (
  none))
  else (
  none))
  else (
  none))
  else (
  none)

def hocketlaw20_WaitPlays.J1 (K : Nat) (x_19 : wait_Calls) (x_28 : hocketref15_Calls) : Option (Unit) :=
  Option.bind (wait_Calls_Take.f x_19.l x_19.done) fun t_40 =>
  Option.bind (hocketref15_Calls_Take.f x_28.l x_28.r) fun t_56 =>
  Option.bind (hocketref15_SameReplies.f K t_40.1 t_56.1) fun t_72 =>
  if t_72 = true then (
  Option.bind (hocketlaw20_awake.f K) fun t_77 =>
  some ())
  else (
  none)
def hocketlaw20_WaitPlays.J4 (K : Nat) (again_101 : Int × wait_Calls × hocketref15_Calls → Option (Unit)) (x_82 : Int) (x_132 : wait_Calls) (x_141 : hocketref15_Calls) : Option (Unit) :=
  Option.bind (wait_Calls_Waiting.f x_132.l x_132.done) fun t_152 =>
  Option.bind (hocketref15_Calls_Waiting.f x_141.l x_141.r) fun t_156 =>
  if t_152 = t_156 then (
  again_101 (w64 (x_82 + 1), x_132, x_141))
  else (
  none)
def hocketlaw20_WaitPlays.J6 (K : Nat) (x0 : List Int) (x_82 : Int) (x_83 : wait_Calls) (x_92 : hocketref15_Calls) (again_101 : Int × wait_Calls × hocketref15_Calls → Option (Unit)) (t_126 : Int) (x_116 : api_Entry) (x_196 : Bool) : Option (Unit) :=
  if x_196 = true then (
  Option.bind (ix x0 x_82) fun t_200 =>
  Option.bind (wait_Calls_Next.f K x_83.l x_83.done (w64 ((band .i64 (shr .i64 t_200 4) 7) - 1))) fun t_205 =>
  Option.bind (hocketref15_Calls_Next.f K x_92.l x_92.r (w64 ((band .i64 (shr .i64 t_200 4) 7) - 1))) fun t_221 =>
  Option.bind (hocketref4_SameEntries.f K t_205.1 t_221.1) fun t_237 =>
  if t_237 = true then (
  hocketlaw20_WaitPlays.J4 K again_101 x_82 (⟨t_205.2.1, t_205.2.2⟩ : wait_Calls) (⟨t_221.2.1, t_221.2.2⟩ : hocketref15_Calls))
  else (
  none))
  else (
  if (band .i64 t_126 7) = 5 then (
  Option.bind (wait_Calls_Done.f K x_83.l x_83.done (⟨0, x_116, (⟨0, ([] : List UInt8), x_82⟩ : api_Result)⟩ : api_Done)) fun t_248 =>
  Option.bind (hocketref15_Calls_Done.f K x_92.l x_92.r (⟨0, x_116, (⟨0, ([] : List UInt8), x_82⟩ : api_Result)⟩ : api_Done)) fun t_260 =>
  if t_248.1 = t_260.1 then (
  hocketlaw20_WaitPlays.J4 K again_101 x_82 (⟨t_248.2.1, t_248.2.2⟩ : wait_Calls) (⟨t_260.2.1, t_260.2.2⟩ : hocketref15_Calls))
  else (
  none))
  else (
  if (band .i64 t_126 7) = 6 then (
  Option.bind (wait_Calls_Again.f K x_83.l x_83.done) fun t_274 =>
  Option.bind (hocketref15_Calls_Again.f K x_92.l x_92.r) fun t_286 =>
  hocketlaw20_WaitPlays.J4 K again_101 x_82 (⟨t_274.1, t_274.2⟩ : wait_Calls) (⟨t_286.1, t_286.2⟩ : hocketref15_Calls))
  else (
  Option.bind (wait_Calls_Take.f x_83.l x_83.done) fun t_298 =>
  Option.bind (hocketref15_Calls_Take.f x_92.l x_92.r) fun t_314 =>
  Option.bind (hocketref15_SameReplies.f K t_298.1 t_314.1) fun t_330 =>
  if t_330 = true then (
  hocketlaw20_WaitPlays.J4 K again_101 x_82 (⟨t_298.2.1, t_298.2.2⟩ : wait_Calls) (⟨t_314.2.1, t_314.2.2⟩ : hocketref15_Calls))
  else (
  none))))
def hocketlaw20_WaitPlays.J5 (K : Nat) (x_83 : wait_Calls) (x_116 : api_Entry) (x_92 : hocketref15_Calls) (again_101 : Int × wait_Calls × hocketref15_Calls → Option (Unit)) (x_82 : Int) (t_126 : Int) (x0 : List Int) (x_163 : Bool) : Option (Unit) :=
  if x_163 = true then (
  Option.bind (wait_Calls_Call.f K x_83.l x_83.done x_116) fun t_169 =>
  Option.bind (hocketref15_Calls_Call.f K x_92.l x_92.r x_116) fun t_181 =>
  if t_169.1 = t_181.1 then (
  hocketlaw20_WaitPlays.J4 K again_101 x_82 (⟨t_169.2.1, t_169.2.2⟩ : wait_Calls) (⟨t_181.2.1, t_181.2.2⟩ : hocketref15_Calls))
  else (
  none))
  else (
  if (band .i64 t_126 7) = 3 then (
  hocketlaw20_WaitPlays.J6 K x0 x_82 x_83 x_92 again_101 t_126 x_116 ((band .i64 t_126 7) == 3))
  else (
  hocketlaw20_WaitPlays.J6 K x0 x_82 x_83 x_92 again_101 t_126 x_116 ((band .i64 t_126 7) == 4)))
def hocketlaw20_WaitPlays.J3 (K : Nat) (x0 : List Int) (x_82 : Int) (x_83 : wait_Calls) (x_92 : hocketref15_Calls) (again_101 : Int × wait_Calls × hocketref15_Calls → Option (Unit)) (x_116 : api_Entry) : Option (Unit) :=
  Option.bind (ix x0 x_82) fun t_126 =>
  if (band .i64 t_126 7) = 0 then (
  hocketlaw20_WaitPlays.J5 K x_83 x_116 x_92 again_101 x_82 t_126 x0 ((band .i64 t_126 7) == 0))
  else (
  if (band .i64 t_126 7) = 1 then (
  hocketlaw20_WaitPlays.J5 K x_83 x_116 x_92 again_101 x_82 t_126 x0 ((band .i64 t_126 7) == 1))
  else (
  hocketlaw20_WaitPlays.J5 K x_83 x_116 x_92 again_101 x_82 t_126 x0 ((band .i64 t_126 7) == 2)))
def hocketlaw20_WaitPlays.J2 (K : Nat) (x0 : List Int) (x_82 : Int) (x_83 : wait_Calls) (x_92 : hocketref15_Calls) (again_101 : Int × wait_Calls × hocketref15_Calls → Option (Unit)) (ex_101 : wait_Calls × hocketref15_Calls → Option (Unit)) (x_108 : Bool) : Option (Unit) :=
  if x_108 = true then (
  Option.bind (ix x0 x_82) fun t_339 =>
  Option.bind (ix x0 x_82) fun t_344 =>
  Option.bind (hocketlaw10_Entry.f t_339 (band .i64 (shr .i64 t_344 4) 31)) fun t_349 =>
  hocketlaw20_WaitPlays.J3 K x0 x_82 x_83 x_92 again_101 t_349)
  else (
  ex_101 (x_83, x_92))
def hocketlaw20_WaitPlays.B1 (K : Nat) (x0 : List Int) (ex_101 : wait_Calls × hocketref15_Calls → Option (Unit)) (again_101 : Int × wait_Calls × hocketref15_Calls → Option (Unit)) (x_82 : Int) (x_83 : wait_Calls) (x_92 : hocketref15_Calls) : Option (Unit) :=
  if x_82 < (x0.length : Int) then (
  hocketlaw20_WaitPlays.J2 K x0 x_82 x_83 x_92 again_101 ex_101 (decide (x_82 < 60)))
  else (
  hocketlaw20_WaitPlays.J2 K x0 x_82 x_83 x_92 again_101 ex_101 false)
def hocketlaw20_WaitPlays.L1 (K : Nat) (x0 : List Int) (ex_101 : wait_Calls × hocketref15_Calls → Option (Unit)) : Nat → Int × wait_Calls × hocketref15_Calls → Option (Unit) :=
  iter fun again v => hocketlaw20_WaitPlays.B1 K x0 ex_101 again v.1 v.2.1 v.2.2
def hocketlaw20_WaitPlays.f (K : Nat) (x0 : List Int) : Option (Unit) :=
  Option.bind (wait_New.f) fun t_1 =>
  hocketlaw20_WaitPlays.L1 K x0 (fun v => hocketlaw20_WaitPlays.J1 K v.1 v.2) K (0, (⟨t_1.1, t_1.2⟩ : wait_Calls), (⟨([] : List hocketref15_call), ([] : List api_Reply)⟩ : hocketref15_Calls))

end Go.Gp
