/- The functions that the law reaches, told plainly. -/
import Derived.Test.YteojmbigbifklaaLa
namespace Go.Gp
set_option linter.unusedVariables false
structure api_Result where
  Err : Int
  Val : List UInt8
  N : Int
  deriving DecidableEq
structure An_s_take_who_want_e_n where
  s : List Int
  take : Bool
  who : Int
  want : List Int
  e : Int
  n : Int
  deriving DecidableEq
structure api_Cmd where
  Kind : Int
  Who : Int
  Key : List UInt8
  Val : List UInt8
  Old : List UInt8
  deriving DecidableEq
structure api_Entry where
  Sess : Int
  Seq : Int
  Cmd : api_Cmd
  deriving DecidableEq
structure wait_call where
  e : api_Entry
  sent : Bool
  deriving DecidableEq
structure api_Reply where
  Sess : Int
  Seq : Int
  Result : api_Result
  deriving DecidableEq
structure api_Done where
  Index : Int
  Entry : api_Entry
  Result : api_Result
  deriving DecidableEq
structure hocketref15_call where
  e : api_Entry
  sent : Bool
  deriving DecidableEq
structure wait_Calls where
  l : List wait_call
  done : List api_Reply
  deriving DecidableEq
structure hocketref15_Calls where
  l : List hocketref15_call
  r : List api_Reply
  deriving DecidableEq
def ok_api_Result (x : api_Result) : Prop := i64ok x.Err ∧ (x.Val.length ≤ 140737488351232 ∧ ∀ z ∈ x.Val, True) ∧ i64ok x.N
def ok_An_s_take_who_want_e_n (x : An_s_take_who_want_e_n) : Prop := (x.s.length ≤ 140737488351232 ∧ ∀ z ∈ x.s, i64ok z) ∧ True ∧ i64ok x.who ∧ (x.want.length ≤ 140737488351232 ∧ ∀ z ∈ x.want, i64ok z) ∧ i64ok x.e ∧ i64ok x.n
def ok_api_Cmd (x : api_Cmd) : Prop := i64ok x.Kind ∧ i64ok x.Who ∧ (x.Key.length ≤ 140737488351232 ∧ ∀ z ∈ x.Key, True) ∧ (x.Val.length ≤ 140737488351232 ∧ ∀ z ∈ x.Val, True) ∧ (x.Old.length ≤ 140737488351232 ∧ ∀ z ∈ x.Old, True)
def ok_api_Entry (x : api_Entry) : Prop := i64ok x.Sess ∧ i64ok x.Seq ∧ ok_api_Cmd x.Cmd
def ok_wait_call (x : wait_call) : Prop := ok_api_Entry x.e ∧ True
def ok_api_Reply (x : api_Reply) : Prop := i64ok x.Sess ∧ i64ok x.Seq ∧ ok_api_Result x.Result
def ok_api_Done (x : api_Done) : Prop := i64ok x.Index ∧ ok_api_Entry x.Entry ∧ ok_api_Result x.Result
def ok_hocketref15_call (x : hocketref15_call) : Prop := ok_api_Entry x.e ∧ True
def ok_wait_Calls (x : wait_Calls) : Prop := (x.l.length ≤ 140737488351232 ∧ ∀ z ∈ x.l, ok_wait_call z) ∧ (x.done.length ≤ 140737488351232 ∧ ∀ z ∈ x.done, ok_api_Reply z)
def ok_hocketref15_Calls (x : hocketref15_Calls) : Prop := (x.l.length ≤ 140737488351232 ∧ ∀ z ∈ x.l, ok_hocketref15_call z) ∧ (x.r.length ≤ 140737488351232 ∧ ∀ z ∈ x.r, ok_api_Reply z)
def slices_Clone_sint_int.f (x0 : List Int) : Option (List Int) :=
  app 17592186044416 ([] : List Int) x0

def slices_Index_sint_int.J1 (K : Nat) : Option (Int) :=
  some (-1)
def slices_Index_sint_int.B1 (K : Nat) (x0 : List Int) (x1 : Int) (ex_7 : Unit → Option (Int)) (again_7 : Int → Option (Int)) (x_6 : Int) : Option (Int) :=
  if x_6 < (x0.length : Int) then (
  Option.bind (ix x0 x_6) fun t_12 =>
  if x1 = t_12 then (
  some x_6)
  else (
  again_7 (w64 (x_6 + 1))))
  else (
  ex_7 ())
def slices_Index_sint_int.L1 (K : Nat) (x0 : List Int) (x1 : Int) (ex_7 : Unit → Option (Int)) : Nat → Int → Option (Int) :=
  iter fun again v => slices_Index_sint_int.B1 K x0 x1 ex_7 again v
def slices_Index_sint_int.f (K : Nat) (x0 : List Int) (x1 : Int) : Option (Int) :=
  slices_Index_sint_int.L1 K x0 x1 (fun v => slices_Index_sint_int.J1 K) K 0

def slices_Delete_sint_int.f (x0 : List Int) (x1 : Int) (x2 : Int) : Option ((List Int)) :=
  Option.bind (must (0 ≤ x1 ∧ x1 ≤ x2 ∧ x2 ≤ (x0.length : Int))) fun u_1 =>
  if x1 = x2 then (
  some x0)
  else (
  some (x0.take (x1).toNat ++ x0.drop (x2).toNat))

def lock_Free.f (K : Nat) (x0 : List Int) (x1 : Int) : Option ((List Int) × api_Result) :=
  Option.bind (slices_Clone_sint_int.f x0) fun t_3 =>
  Option.bind (slices_Index_sint_int.f K t_3 x1) fun t_11 =>
  if t_11 < 0 then (
  some (t_3, (⟨5, ([] : List UInt8), 0⟩ : api_Result)))
  else (
  Option.bind (slices_Delete_sint_int.f t_3 t_11 (w64 (t_11 + 1))) fun t_19 =>
  if (t_19.length : Int) = 0 then (
  some (([] : List Int), (⟨0, ([] : List UInt8), (-1)⟩ : api_Result)))
  else (
  Option.bind (ix t_19 0) fun t_34 =>
  some (t_19, (⟨0, ([] : List UInt8), t_34⟩ : api_Result))))



def slices_Contains_sint_int.f (K : Nat) (x0 : List Int) (x1 : Int) : Option (Bool) :=
  Option.bind (slices_Index_sint_int.f K x0 x1) fun t_1 =>
  some (decide (t_1 ≥ 0))

def lock_Take.f (K : Nat) (x0 : List Int) (x1 : Int) : Option ((List Int) × api_Result) :=
  Option.bind (slices_Clone_sint_int.f x0) fun t_3 =>
  Option.bind (slices_Contains_sint_int.f K t_3 x1) fun t_15 =>
  if t_15 = true then (
  some (t_3, (⟨6, ([] : List UInt8), 0⟩ : api_Result)))
  else (
  if (t_3.length : Int) ≥ 5 then (
  some (t_3, (⟨3, ([] : List UInt8), 0⟩ : api_Result)))
  else (
  Option.bind (app 17592186044416 t_3 ([x1] : List Int)) fun t_31 =>
  some (t_31, (⟨0, ([] : List UInt8), (t_3.length : Int)⟩ : api_Result))))

def hocketref1_SameInts.J1 (K : Nat) : Option (Bool) :=
  some true
def hocketref1_SameInts.B1 (K : Nat) (x0 : List Int) (x1 : List Int) (ex_9 : Unit → Option (Bool)) (again_9 : Int → Option (Bool)) (x_8 : Int) : Option (Bool) :=
  if x_8 < (x0.length : Int) then (
  Option.bind (ix x0 x_8) fun t_16 =>
  Option.bind (ix x1 x_8) fun t_21 =>
  if t_16 = t_21 then (
  again_9 (w64 (x_8 + 1)))
  else (
  some false))
  else (
  ex_9 ())
def hocketref1_SameInts.L1 (K : Nat) (x0 : List Int) (x1 : List Int) (ex_9 : Unit → Option (Bool)) : Nat → Int → Option (Bool) :=
  iter fun again v => hocketref1_SameInts.B1 K x0 x1 ex_9 again v
def hocketref1_SameInts.f (K : Nat) (x0 : List Int) (x1 : List Int) : Option (Bool) :=
  if (x0.length : Int) = (x1.length : Int) then (
  hocketref1_SameInts.L1 K x0 x1 (fun v => hocketref1_SameInts.J1 K) K 0)
  else (
  some false)

def lock_Owner.f (x0 : List Int) : Option (api_Result) :=
  if (x0.length : Int) = 0 then (
  some (⟨5, ([] : List UInt8), 0⟩ : api_Result))
  else (
  Option.bind (ix x0 0) fun t_7 =>
  some (⟨0, ([] : List UInt8), t_7⟩ : api_Result))

def hocketlaw6_awake.f (K : Nat) : Option (Unit) :=
  Option.bind (lock_Take.f K ([] : List Int) 7) fun t_1 =>
  Option.bind (lock_Take.f K t_1.1 3) fun t_16 =>
  Option.bind (lock_Take.f K t_16.1 7) fun t_31 =>
  Option.bind (lock_Free.f K t_16.1 7) fun t_46 =>
  if t_1.2.N = 0 then (
  if t_16.2.N = 1 then (
  if t_31.2.Err = 6 then (
  if t_46.2.N = 3 then (
  Option.bind (hocketref1_SameInts.f K t_46.1 ([3] : List Int)) fun t_72 =>
  if t_72 = true then (
  Option.bind (lock_Owner.f t_46.1) fun t_77 =>
  if t_77.N = 3 then (
  Option.bind (lock_Owner.f ([] : List Int)) fun t_86 =>
  if t_86.Err = 5 then (
  some ())
  else (
  none))
  else (
  none))
  else (
  none))
  else (
  none))
  else (
  none))
  else (
  none))
  else (
  none)

def hocketlaw6_LockForms.J1 (K : Nat) (t_176 : An_s_take_who_want_e_n) (x_205 : List Int) (x_210 : api_Result) : Option (Unit) :=
  Option.bind (hocketref1_SameInts.f K x_205 t_176.want) fun t_218 =>
  if t_218 = true then (
  if x_210.Err = t_176.e then (
  if x_210.N = t_176.n then (
  if (x_210.Val.length : Int) = 0 then (
  Option.bind (hocketlaw6_awake.f K) fun t_226 =>
  some ())
  else (
  none))
  else (
  none))
  else (
  none))
  else (
  none)
def hocketlaw6_LockForms.f (K : Nat) (x0 : Int) : Option (Unit) :=
  Option.bind (rem (band .i64 x0 255) (([(⟨([] : List Int), true, 5, ([5] : List Int), 0, 0⟩ : An_s_take_who_want_e_n), (⟨([5] : List Int), true, 6, ([5, 6] : List Int), 0, 1⟩ : An_s_take_who_want_e_n), (⟨([5] : List Int), true, 5, ([5] : List Int), 6, 0⟩ : An_s_take_who_want_e_n), (⟨([5, 6] : List Int), true, 6, ([5, 6] : List Int), 6, 0⟩ : An_s_take_who_want_e_n), (⟨([1, 2, 3, 4, 5] : List Int), true, 6, ([1, 2, 3, 4, 5] : List Int), 3, 0⟩ : An_s_take_who_want_e_n), (⟨([1, 2, 3, 4, 5] : List Int), true, 5, ([1, 2, 3, 4, 5] : List Int), 6, 0⟩ : An_s_take_who_want_e_n), (⟨([1, 2, 3, 4] : List Int), true, 5, ([1, 2, 3, 4, 5] : List Int), 0, 4⟩ : An_s_take_who_want_e_n), (⟨([] : List Int), false, 5, ([] : List Int), 5, 0⟩ : An_s_take_who_want_e_n), (⟨([5] : List Int), false, 5, ([] : List Int), 0, (-1)⟩ : An_s_take_who_want_e_n), (⟨([5, 6] : List Int), false, 5, ([6] : List Int), 0, 6⟩ : An_s_take_who_want_e_n), (⟨([5, 6] : List Int), false, 6, ([5] : List Int), 0, 5⟩ : An_s_take_who_want_e_n), (⟨([5, 6, 7] : List Int), false, 6, ([5, 7] : List Int), 0, 5⟩ : An_s_take_who_want_e_n), (⟨([5, 6] : List Int), false, 7, ([5, 6] : List Int), 5, 0⟩ : An_s_take_who_want_e_n), (⟨([0] : List Int), true, (-1), ([0, (-1)] : List Int), 0, 1⟩ : An_s_take_who_want_e_n)] : List An_s_take_who_want_e_n).length : Int)) fun t_175 =>
  Option.bind (ix ([(⟨([] : List Int), true, 5, ([5] : List Int), 0, 0⟩ : An_s_take_who_want_e_n), (⟨([5] : List Int), true, 6, ([5, 6] : List Int), 0, 1⟩ : An_s_take_who_want_e_n), (⟨([5] : List Int), true, 5, ([5] : List Int), 6, 0⟩ : An_s_take_who_want_e_n), (⟨([5, 6] : List Int), true, 6, ([5, 6] : List Int), 6, 0⟩ : An_s_take_who_want_e_n), (⟨([1, 2, 3, 4, 5] : List Int), true, 6, ([1, 2, 3, 4, 5] : List Int), 3, 0⟩ : An_s_take_who_want_e_n), (⟨([1, 2, 3, 4, 5] : List Int), true, 5, ([1, 2, 3, 4, 5] : List Int), 6, 0⟩ : An_s_take_who_want_e_n), (⟨([1, 2, 3, 4] : List Int), true, 5, ([1, 2, 3, 4, 5] : List Int), 0, 4⟩ : An_s_take_who_want_e_n), (⟨([] : List Int), false, 5, ([] : List Int), 5, 0⟩ : An_s_take_who_want_e_n), (⟨([5] : List Int), false, 5, ([] : List Int), 0, (-1)⟩ : An_s_take_who_want_e_n), (⟨([5, 6] : List Int), false, 5, ([6] : List Int), 0, 6⟩ : An_s_take_who_want_e_n), (⟨([5, 6] : List Int), false, 6, ([5] : List Int), 0, 5⟩ : An_s_take_who_want_e_n), (⟨([5, 6, 7] : List Int), false, 6, ([5, 7] : List Int), 0, 5⟩ : An_s_take_who_want_e_n), (⟨([5, 6] : List Int), false, 7, ([5, 6] : List Int), 5, 0⟩ : An_s_take_who_want_e_n), (⟨([0] : List Int), true, (-1), ([0, (-1)] : List Int), 0, 1⟩ : An_s_take_who_want_e_n)] : List An_s_take_who_want_e_n) t_175) fun t_176 =>
  Option.bind (lock_Free.f K t_176.s t_176.who) fun t_188 =>
  if t_176.take = true then (
  Option.bind (lock_Take.f K t_176.s t_176.who) fun t_231 =>
  hocketlaw6_LockForms.J1 K t_176 t_231.1 t_231.2)
  else (
  hocketlaw6_LockForms.J1 K t_176 t_188.1 t_188.2)

def hocketlaw6_LockTurns.J2 (K : Nat) (x_12 : List Int) : Option (Unit) :=
  if (x_12.length : Int) = 0 then (
  Option.bind (lock_Owner.f x_12) fun t_21 =>
  if t_21.Err = 5 then (
  Option.bind (hocketlaw6_awake.f K) fun t_30 =>
  some ())
  else (
  none))
  else (
  none)
def hocketlaw6_LockTurns.J5 (K : Nat) (again_41 : (List Int) × Int → Option (Unit)) (t_63 : (List Int) × api_Result) (x_40 : Int) (x_86 : Bool) : Option (Unit) :=
  if x_86 = true then (
  none)
  else (
  again_41 (t_63.1, w64 (x_40 + 1)))
def hocketlaw6_LockTurns.J4 (K : Nat) (t_63 : (List Int) × api_Result) (again_41 : (List Int) × Int → Option (Unit)) (x_40 : Int) (x_80 : Int) : Option (Unit) :=
  if t_63.2.Err = 0 then (
  hocketlaw6_LockTurns.J5 K again_41 t_63 x_40 (t_63.2.N != x_80))
  else (
  hocketlaw6_LockTurns.J5 K again_41 t_63 x_40 true)
def hocketlaw6_LockTurns.J3 (K : Nat) (x_35 : List Int) (x_40 : Int) (x0 : Int) (again_41 : (List Int) × Int → Option (Unit)) (x_59 : Bool) : Option (Unit) :=
  if x_59 = true then (
  none)
  else (
  Option.bind (lock_Free.f K x_35 (w64 (100 + x_40))) fun t_63 =>
  if x_40 = (w64 ((w64 ((Int.tmod (band .i64 x0 255) 5) + 1)) - 1)) then (
  hocketlaw6_LockTurns.J4 K t_63 again_41 x_40 (-1))
  else (
  hocketlaw6_LockTurns.J4 K t_63 again_41 x_40 (w64 (101 + x_40))))
def hocketlaw6_LockTurns.B1 (K : Nat) (x0 : Int) (ex_41 : (List Int) → Option (Unit)) (again_41 : (List Int) × Int → Option (Unit)) (x_35 : List Int) (x_40 : Int) : Option (Unit) :=
  if x_40 < (w64 ((Int.tmod (band .i64 x0 255) 5) + 1)) then (
  Option.bind (lock_Owner.f x_35) fun t_46 =>
  if t_46.Err = 0 then (
  hocketlaw6_LockTurns.J3 K x_35 x_40 x0 again_41 (t_46.N != (w64 (100 + x_40))))
  else (
  hocketlaw6_LockTurns.J3 K x_35 x_40 x0 again_41 true))
  else (
  ex_41 x_35)
def hocketlaw6_LockTurns.L1 (K : Nat) (x0 : Int) (ex_41 : (List Int) → Option (Unit)) : Nat → (List Int) × Int → Option (Unit) :=
  iter fun again v => hocketlaw6_LockTurns.B1 K x0 ex_41 again v.1 v.2
def hocketlaw6_LockTurns.J1 (K : Nat) (x0 : Int) (x_3 : List Int) : Option (Unit) :=
  hocketlaw6_LockTurns.L1 K x0 (fun v => hocketlaw6_LockTurns.J2 K v) K (x_3, 0)
def hocketlaw6_LockTurns.J6 (K : Nat) (again_100 : (List Int) × Int → Option (Unit)) (t_105 : (List Int) × api_Result) (x_99 : Int) (x_123 : Bool) : Option (Unit) :=
  if x_123 = true then (
  none)
  else (
  again_100 (t_105.1, w64 (x_99 + 1)))
def hocketlaw6_LockTurns.B2 (K : Nat) (x0 : Int) (ex_100 : (List Int) → Option (Unit)) (again_100 : (List Int) × Int → Option (Unit)) (x_94 : List Int) (x_99 : Int) : Option (Unit) :=
  if x_99 < (w64 ((Int.tmod (band .i64 x0 255) 5) + 1)) then (
  Option.bind (lock_Take.f K x_94 (w64 (100 + x_99))) fun t_105 =>
  if t_105.2.Err = 0 then (
  hocketlaw6_LockTurns.J6 K again_100 t_105 x_99 (t_105.2.N != x_99))
  else (
  hocketlaw6_LockTurns.J6 K again_100 t_105 x_99 true))
  else (
  ex_100 x_94)
def hocketlaw6_LockTurns.L2 (K : Nat) (x0 : Int) (ex_100 : (List Int) → Option (Unit)) : Nat → (List Int) × Int → Option (Unit) :=
  iter fun again v => hocketlaw6_LockTurns.B2 K x0 ex_100 again v.1 v.2
def hocketlaw6_LockTurns.f (K : Nat) (x0 : Int) : Option (Unit) :=
  hocketlaw6_LockTurns.L2 K x0 (fun v => hocketlaw6_LockTurns.J1 K x0 v) K (([] : List Int), 0)

def hocketlaw6_LockOwn.J3 (K : Nat) (x_54 : List Int) (x_3 : List Int) (t_16 : List Int) (x_63 : List Int) : Option (Unit) :=
  Option.bind (app 17592186044416 x_54 ([1] : List Int)) fun t_76 =>
  Option.bind (app 17592186044416 x_63 ([2] : List Int)) fun t_88 =>
  Option.bind (hocketref1_SameInts.f K x_3 t_16) fun t_95 =>
  if t_95 = true then (
  if (w64 ((t_76.length : Int) + (t_88.length : Int))) ≥ 2 then (
  Option.bind (hocketlaw6_awake.f K) fun t_101 =>
  some ())
  else (
  none))
  else (
  none)
def hocketlaw6_LockOwn.B1 (K : Nat) (t_37 : (List Int) × api_Result) (ex_112 : (List Int) → Option (Unit)) (again_112 : (List Int) × Int → Option (Unit)) (x_106 : List Int) (x_111 : Int) : Option (Unit) :=
  if x_111 < (t_37.1.length : Int) then (
  Option.bind (ix x_106 x_111) fun t_116 =>
  again_112 ((x_106.set (x_111).toNat 777), w64 (x_111 + 1)))
  else (
  ex_112 x_106)
def hocketlaw6_LockOwn.L1 (K : Nat) (t_37 : (List Int) × api_Result) (ex_112 : (List Int) → Option (Unit)) : Nat → (List Int) × Int → Option (Unit) :=
  iter fun again v => hocketlaw6_LockOwn.B1 K t_37 ex_112 again v.1 v.2
def hocketlaw6_LockOwn.J2 (K : Nat) (t_37 : (List Int) × api_Result) (x_3 : List Int) (t_16 : List Int) (x_54 : List Int) : Option (Unit) :=
  hocketlaw6_LockOwn.L1 K t_37 (fun v => hocketlaw6_LockOwn.J3 K x_54 x_3 t_16 v) K (t_37.1, 0)
def hocketlaw6_LockOwn.B2 (K : Nat) (t_22 : (List Int) × api_Result) (ex_130 : (List Int) → Option (Unit)) (again_130 : (List Int) × Int → Option (Unit)) (x_124 : List Int) (x_129 : Int) : Option (Unit) :=
  if x_129 < (t_22.1.length : Int) then (
  Option.bind (ix x_124 x_129) fun t_134 =>
  again_130 ((x_124.set (x_129).toNat 777), w64 (x_129 + 1)))
  else (
  ex_130 x_124)
def hocketlaw6_LockOwn.L2 (K : Nat) (t_22 : (List Int) × api_Result) (ex_130 : (List Int) → Option (Unit)) : Nat → (List Int) × Int → Option (Unit) :=
  iter fun again v => hocketlaw6_LockOwn.B2 K t_22 ex_130 again v.1 v.2
def hocketlaw6_LockOwn.J1 (K : Nat) (x1 : Int) (x2 : Int) (x_3 : List Int) : Option (Unit) :=
  Option.bind (app 17592186044416 ([] : List Int) x_3) fun t_16 =>
  Option.bind (lock_Take.f K x_3 (band .i64 x1 15)) fun t_22 =>
  Option.bind (lock_Free.f K x_3 (band .i64 x2 15)) fun t_37 =>
  hocketlaw6_LockOwn.L2 K t_22 (fun v => hocketlaw6_LockOwn.J2 K t_37 x_3 t_16 v) K (t_22.1, 0)
def hocketlaw6_LockOwn.J4 (K : Nat) (x0 : List Int) (x_147 : Int) (x_142 : List Int) (again_148 : (List Int) × Int → Option (Unit)) (ex_148 : (List Int) → Option (Unit)) (x_154 : Bool) : Option (Unit) :=
  if x_154 = true then (
  Option.bind (ix x0 x_147) fun t_158 =>
  Option.bind (lock_Take.f K x_142 (band .i64 t_158 7)) fun t_163 =>
  again_148 (t_163.1, w64 (x_147 + 1)))
  else (
  ex_148 x_142)
def hocketlaw6_LockOwn.B3 (K : Nat) (x0 : List Int) (ex_148 : (List Int) → Option (Unit)) (again_148 : (List Int) × Int → Option (Unit)) (x_142 : List Int) (x_147 : Int) : Option (Unit) :=
  if x_147 < (x0.length : Int) then (
  hocketlaw6_LockOwn.J4 K x0 x_147 x_142 again_148 ex_148 (decide (x_147 < 20)))
  else (
  hocketlaw6_LockOwn.J4 K x0 x_147 x_142 again_148 ex_148 false)
def hocketlaw6_LockOwn.L3 (K : Nat) (x0 : List Int) (ex_148 : (List Int) → Option (Unit)) : Nat → (List Int) × Int → Option (Unit) :=
  iter fun again v => hocketlaw6_LockOwn.B3 K x0 ex_148 again v.1 v.2
def hocketlaw6_LockOwn.f (K : Nat) (x0 : List Int) (x1 : Int) (x2 : Int) : Option (Unit) :=
  hocketlaw6_LockOwn.L3 K x0 (fun v => hocketlaw6_LockOwn.J1 K x1 x2 v) K (([] : List Int), 0)

def hocketref4_place.J1 (K : Nat) : Option (Int) :=
  some (-1)
def hocketref4_place.B1 (K : Nat) (x0 : List Int) (x1 : Int) (ex_7 : Unit → Option (Int)) (again_7 : Int → Option (Int)) (x_6 : Int) : Option (Int) :=
  if x_6 < (x0.length : Int) then (
  Option.bind (ix x0 x_6) fun t_12 =>
  if t_12 = x1 then (
  some x_6)
  else (
  again_7 (w64 (x_6 + 1))))
  else (
  ex_7 ())
def hocketref4_place.L1 (K : Nat) (x0 : List Int) (x1 : Int) (ex_7 : Unit → Option (Int)) : Nat → Int → Option (Int) :=
  iter fun again v => hocketref4_place.B1 K x0 x1 ex_7 again v
def hocketref4_place.f (K : Nat) (x0 : List Int) (x1 : Int) : Option (Int) :=
  hocketref4_place.L1 K x0 x1 (fun v => hocketref4_place.J1 K) K 0

def hocketref4_bad.f (x0 : Int) : Option (api_Result) :=
  some (⟨x0, ([] : List UInt8), 0⟩ : api_Result)

def hocketref4_Take.f (K : Nat) (x0 : List Int) (x1 : Int) : Option ((List Int) × api_Result) :=
  Option.bind (app 17592186044416 ([] : List Int) x0) fun t_9 =>
  Option.bind (hocketref4_place.f K x0 x1) fun t_16 =>
  if t_16 ≥ 0 then (
  Option.bind (hocketref4_bad.f 6) fun t_21 =>
  some (t_9, t_21))
  else (
  if (x0.length : Int) ≥ 5 then (
  Option.bind (hocketref4_bad.f 3) fun t_32 =>
  some (t_9, t_32))
  else (
  Option.bind (app 17592186044416 t_9 ([x1] : List Int)) fun t_47 =>
  some (t_47, (⟨0, ([] : List UInt8), (x0.length : Int)⟩ : api_Result))))

def hocketref4_Free.f (K : Nat) (x0 : List Int) (x1 : Int) : Option ((List Int) × api_Result) :=
  Option.bind (hocketref4_place.f K x0 x1) fun t_3 =>
  if t_3 < 0 then (
  Option.bind (app 17592186044416 ([] : List Int) x0) fun t_15 =>
  Option.bind (hocketref4_bad.f 5) fun t_21 =>
  some (t_15, t_21))
  else (
  Option.bind (cut x0 0 t_3) fun t_32 =>
  Option.bind (cut x0 (w64 (t_3 + 1)) (x0.length : Int)) fun t_35 =>
  Option.bind (app 17592186044416 ([] : List Int) t_32) fun t_44 =>
  Option.bind (app 17592186044416 t_44 t_35) fun t_50 =>
  if (t_50.length : Int) = 0 then (
  some (([] : List Int), (⟨0, ([] : List UInt8), (-1)⟩ : api_Result)))
  else (
  Option.bind (ix t_50 0) fun t_63 =>
  some (t_50, (⟨0, ([] : List UInt8), t_63⟩ : api_Result))))

def hocketref4_SameResult.f (x0 : api_Result) (x1 : api_Result) : Option (Bool) :=
  if x0.Err = x1.Err then (
  if x0.Val = x1.Val then (
  some (x0.N == x1.N))
  else (
  some false))
  else (
  some false)

def hocketref4_Owner.f (x0 : List Int) : Option (api_Result) :=
  if (x0.length : Int) = 0 then (
  Option.bind (hocketref4_bad.f 5) fun t_5 =>
  some t_5)
  else (
  Option.bind (ix x0 0) fun t_14 =>
  some (⟨0, ([] : List UInt8), t_14⟩ : api_Result))

def hocketlaw6_LockPlays.J3 (K : Nat) : Option (Unit) :=
  Option.bind (hocketlaw6_awake.f K) fun t_16 =>
  some ()
def hocketlaw6_LockPlays.J7 (K : Nat) (again_28 : (List Int) × (List Int) × Int → Option (Unit)) (x_59 : List Int) (x_64 : List Int) (x_27 : Int) (x_83 : Bool) : Option (Unit) :=
  if x_83 = true then (
  none)
  else (
  again_28 (x_59, x_64, w64 (x_27 + 1)))
def hocketlaw6_LockPlays.J6 (K : Nat) (again_28 : (List Int) × (List Int) × Int → Option (Unit)) (x_27 : Int) (x_59 : List Int) (x_64 : List Int) (x_69 : api_Result) (x_74 : api_Result) : Option (Unit) :=
  Option.bind (hocketref4_SameResult.f x_69 x_74) fun t_89 =>
  if t_89 = true then (
  Option.bind (hocketref1_SameInts.f K x_59 x_64) fun t_94 =>
  if t_94 = true then (
  Option.bind (lock_Owner.f x_59) fun t_99 =>
  Option.bind (hocketref4_Owner.f x_64) fun t_107 =>
  Option.bind (hocketref4_SameResult.f t_99 t_107) fun t_115 =>
  hocketlaw6_LockPlays.J7 K again_28 x_59 x_64 x_27 (!t_115))
  else (
  hocketlaw6_LockPlays.J7 K again_28 x_59 x_64 x_27 true))
  else (
  hocketlaw6_LockPlays.J7 K again_28 x_59 x_64 x_27 true)
def hocketlaw6_LockPlays.J5 (K : Nat) (x0 : List Int) (x_27 : Int) (x_21 : List Int) (x_24 : List Int) (again_28 : (List Int) × (List Int) × Int → Option (Unit)) (x_45 : Int) : Option (Unit) :=
  Option.bind (ix x0 x_27) fun t_53 =>
  if (band .i64 t_53 1) = 0 then (
  Option.bind (lock_Take.f K x_21 x_45) fun t_120 =>
  Option.bind (hocketref4_Take.f K x_24 x_45) fun t_133 =>
  hocketlaw6_LockPlays.J6 K again_28 x_27 t_120.1 t_133.1 t_120.2 t_133.2)
  else (
  Option.bind (lock_Free.f K x_21 x_45) fun t_146 =>
  Option.bind (hocketref4_Free.f K x_24 x_45) fun t_159 =>
  hocketlaw6_LockPlays.J6 K again_28 x_27 t_146.1 t_159.1 t_146.2 t_159.2)
def hocketlaw6_LockPlays.J4 (K : Nat) (x0 : List Int) (x_27 : Int) (x2 : Bool) (x_21 : List Int) (x_24 : List Int) (again_28 : (List Int) × (List Int) × Int → Option (Unit)) (ex_28 : Unit → Option (Unit)) (x_33 : Bool) : Option (Unit) :=
  if x_33 = true then (
  Option.bind (ix x0 x_27) fun t_38 =>
  if x2 = true then (
  hocketlaw6_LockPlays.J5 K x0 x_27 x_21 x_24 again_28 (band .i64 (shr .i64 t_38 1) 7))
  else (
  hocketlaw6_LockPlays.J5 K x0 x_27 x_21 x_24 again_28 (shr .i64 t_38 1)))
  else (
  ex_28 ())
def hocketlaw6_LockPlays.B1 (K : Nat) (x0 : List Int) (x2 : Bool) (ex_28 : Unit → Option (Unit)) (again_28 : (List Int) × (List Int) × Int → Option (Unit)) (x_21 : List Int) (x_24 : List Int) (x_27 : Int) : Option (Unit) :=
  if x_27 < (x0.length : Int) then (
  hocketlaw6_LockPlays.J4 K x0 x_27 x2 x_21 x_24 again_28 ex_28 (decide (x_27 < 50)))
  else (
  hocketlaw6_LockPlays.J4 K x0 x_27 x2 x_21 x_24 again_28 ex_28 false)
def hocketlaw6_LockPlays.L1 (K : Nat) (x0 : List Int) (x2 : Bool) (ex_28 : Unit → Option (Unit)) : Nat → (List Int) × (List Int) × Int → Option (Unit) :=
  iter fun again v => hocketlaw6_LockPlays.B1 K x0 x2 ex_28 again v.1 v.2.1 v.2.2
def hocketlaw6_LockPlays.J2 (K : Nat) (x0 : List Int) (x2 : Bool) (x_7 : List Int) : Option (Unit) :=
  hocketlaw6_LockPlays.L1 K x0 x2 (fun v => hocketlaw6_LockPlays.J3 K) K (x_7, x_7, 0)
def hocketlaw6_LockPlays.J1 (K : Nat) (x1 : List Int) (x0 : List Int) (x2 : Bool) : Option (Unit) :=
  if (x1.length : Int) > 12 then (
  hocketlaw6_LockPlays.J2 K x0 x2 ([] : List Int))
  else (
  hocketlaw6_LockPlays.J2 K x0 x2 x1)
def hocketlaw6_LockPlays.J8 (K : Nat) (again_177 : Int → Option (Unit)) (x_176 : Int) : Option (Unit) :=
  again_177 (w64 (x_176 + 1))
def hocketlaw6_LockPlays.J9 (K : Nat) (x1 : List Int) (x_176 : Int) (x_187 : Int) (again_188 : Int → Option (Unit)) (ex_188 : Unit → Option (Unit)) (x_193 : Bool) : Option (Unit) :=
  if x_193 = true then (
  Option.bind (ix x1 x_176) fun t_200 =>
  Option.bind (ix x1 x_187) fun t_205 =>
  if t_200 = t_205 then (
  Option.bind (hocketlaw6_awake.f K) fun t_211 =>
  some ())
  else (
  again_188 (w64 (x_187 + 1))))
  else (
  ex_188 ())
def hocketlaw6_LockPlays.B3 (K : Nat) (x_176 : Int) (x1 : List Int) (ex_188 : Unit → Option (Unit)) (again_188 : Int → Option (Unit)) (x_187 : Int) : Option (Unit) :=
  if x_187 < x_176 then (
  hocketlaw6_LockPlays.J9 K x1 x_176 x_187 again_188 ex_188 (decide (x_187 < 12)))
  else (
  hocketlaw6_LockPlays.J9 K x1 x_176 x_187 again_188 ex_188 false)
def hocketlaw6_LockPlays.L3 (K : Nat) (x_176 : Int) (x1 : List Int) (ex_188 : Unit → Option (Unit)) : Nat → Int → Option (Unit) :=
  iter fun again v => hocketlaw6_LockPlays.B3 K x_176 x1 ex_188 again v
def hocketlaw6_LockPlays.B2 (K : Nat) (x1 : List Int) (ex_177 : Unit → Option (Unit)) (again_177 : Int → Option (Unit)) (x_176 : Int) : Option (Unit) :=
  if x_176 < (x1.length : Int) then (
  hocketlaw6_LockPlays.L3 K x_176 x1 (fun v => hocketlaw6_LockPlays.J8 K again_177 x_176) K 0)
  else (
  ex_177 ())
def hocketlaw6_LockPlays.L2 (K : Nat) (x1 : List Int) (ex_177 : Unit → Option (Unit)) : Nat → Int → Option (Unit) :=
  iter fun again v => hocketlaw6_LockPlays.B2 K x1 ex_177 again v
def hocketlaw6_LockPlays.f (K : Nat) (x0 : List Int) (x1 : List Int) (x2 : Bool) : Option (Unit) :=
  hocketlaw6_LockPlays.L2 K x1 (fun v => hocketlaw6_LockPlays.J1 K x1 x0 x2) K 0

def hocketlaw6_LockOne.J1 (K : Nat) : Option (Unit) :=
  Option.bind (hocketlaw6_awake.f K) fun t_5 =>
  some ()
def hocketlaw6_LockOne.J5 (K : Nat) (again_21 : (List Int) × (List Int) × Int → Option (Unit)) (x_50 : List Int) (x_55 : List Int) (x_20 : Int) (x_75 : Bool) : Option (Unit) :=
  if x_75 = true then (
  none)
  else (
  again_21 (x_50, x_55, w64 (x_20 + 1)))
def hocketlaw6_LockOne.J4 (K : Nat) (again_21 : (List Int) × (List Int) × Int → Option (Unit)) (x_20 : Int) (x_50 : List Int) (x_55 : List Int) : Option (Unit) :=
  Option.bind (lock_Owner.f x_50) fun t_62 =>
  Option.bind (hocketref1_SameInts.f K x_50 x_55) fun t_80 =>
  if t_80 = true then (
  if (x_55.length : Int) > 0 then (
  Option.bind (ix x_55 0) fun t_86 =>
  if t_62.N = t_86 then (
  hocketlaw6_LockOne.J5 K again_21 x_50 x_55 x_20 (!((t_62.Err == 0) == (decide ((x_55.length : Int) > 0)))))
  else (
  hocketlaw6_LockOne.J5 K again_21 x_50 x_55 x_20 true))
  else (
  hocketlaw6_LockOne.J5 K again_21 x_50 x_55 x_20 (!((t_62.Err == 0) == (decide ((x_55.length : Int) > 0))))))
  else (
  hocketlaw6_LockOne.J5 K again_21 x_50 x_55 x_20 true)
def hocketlaw6_LockOne.J6 (K : Nat) (t_93 : (List Int) × api_Result) (x_15 : List Int) (t_33 : Int) (again_21 : (List Int) × (List Int) × Int → Option (Unit)) (x_20 : Int) (x_111 : Bool) : Option (Unit) :=
  if x_111 = true then (
  none)
  else (
  if t_93.2.Err = 0 then (
  Option.bind (app 17592186044416 x_15 ([band .i64 (shr .i64 t_33 1) 7] : List Int)) fun t_123 =>
  hocketlaw6_LockOne.J4 K again_21 x_20 t_93.1 t_123)
  else (
  hocketlaw6_LockOne.J4 K again_21 x_20 t_93.1 x_15))
def hocketlaw6_LockOne.J3 (K : Nat) (x0 : List Int) (x_20 : Int) (x_10 : List Int) (t_33 : Int) (x_15 : List Int) (again_21 : (List Int) × (List Int) × Int → Option (Unit)) (x_40 : Int) : Option (Unit) :=
  Option.bind (ix x0 x_20) fun t_44 =>
  if (band .i64 t_44 1) = 0 then (
  Option.bind (lock_Take.f K x_10 (band .i64 (shr .i64 t_33 1) 7)) fun t_93 =>
  if x_40 < 0 then (
  hocketlaw6_LockOne.J6 K t_93 x_15 t_33 again_21 x_20 (!((t_93.2.Err == 0) == (decide ((x_15.length : Int) < 5)))))
  else (
  hocketlaw6_LockOne.J6 K t_93 x_15 t_33 again_21 x_20 (!((t_93.2.Err == 0) == false))))
  else (
  Option.bind (lock_Free.f K x_10 (band .i64 (shr .i64 t_33 1) 7)) fun t_130 =>
  if (t_130.2.Err == 0) = (decide (x_40 ≥ 0)) then (
  if x_40 ≥ 0 then (
  Option.bind (cut x_15 0 x_40) fun t_151 =>
  Option.bind (cut x_15 (w64 (x_40 + 1)) (x_15.length : Int)) fun t_154 =>
  Option.bind (app 17592186044416 ([] : List Int) t_151) fun t_163 =>
  Option.bind (app 17592186044416 t_163 t_154) fun t_169 =>
  hocketlaw6_LockOne.J4 K again_21 x_20 t_130.1 t_169)
  else (
  hocketlaw6_LockOne.J4 K again_21 x_20 t_130.1 x_15))
  else (
  none))
def hocketlaw6_LockOne.B2 (K : Nat) (x_15 : List Int) (t_33 : Int) (ex_178 : Int → Option (Unit)) (again_178 : Int × Int → Option (Unit)) (x_176 : Int) (x_177 : Int) : Option (Unit) :=
  if x_177 < (x_15.length : Int) then (
  Option.bind (ix x_15 x_177) fun t_183 =>
  if t_183 = (band .i64 (shr .i64 t_33 1) 7) then (
  again_178 (x_177, w64 (x_177 + 1)))
  else (
  again_178 (x_176, w64 (x_177 + 1))))
  else (
  ex_178 x_176)
def hocketlaw6_LockOne.L2 (K : Nat) (x_15 : List Int) (t_33 : Int) (ex_178 : Int → Option (Unit)) : Nat → Int × Int → Option (Unit) :=
  iter fun again v => hocketlaw6_LockOne.B2 K x_15 t_33 ex_178 again v.1 v.2
def hocketlaw6_LockOne.J2 (K : Nat) (x0 : List Int) (x_20 : Int) (x_15 : List Int) (x_10 : List Int) (again_21 : (List Int) × (List Int) × Int → Option (Unit)) (ex_21 : Unit → Option (Unit)) (x_28 : Bool) : Option (Unit) :=
  if x_28 = true then (
  Option.bind (ix x0 x_20) fun t_33 =>
  hocketlaw6_LockOne.L2 K x_15 t_33 (fun v => hocketlaw6_LockOne.J3 K x0 x_20 x_10 t_33 x_15 again_21 v) K ((-1), 0))
  else (
  ex_21 ())
def hocketlaw6_LockOne.B1 (K : Nat) (x0 : List Int) (ex_21 : Unit → Option (Unit)) (again_21 : (List Int) × (List Int) × Int → Option (Unit)) (x_10 : List Int) (x_15 : List Int) (x_20 : Int) : Option (Unit) :=
  if x_20 < (x0.length : Int) then (
  hocketlaw6_LockOne.J2 K x0 x_20 x_15 x_10 again_21 ex_21 (decide (x_20 < 60)))
  else (
  hocketlaw6_LockOne.J2 K x0 x_20 x_15 x_10 again_21 ex_21 false)
def hocketlaw6_LockOne.L1 (K : Nat) (x0 : List Int) (ex_21 : Unit → Option (Unit)) : Nat → (List Int) × (List Int) × Int → Option (Unit) :=
  iter fun again v => hocketlaw6_LockOne.B1 K x0 ex_21 again v.1 v.2.1 v.2.2
def hocketlaw6_LockOne.f (K : Nat) (x0 : List Int) : Option (Unit) :=
  hocketlaw6_LockOne.L1 K x0 (fun v => hocketlaw6_LockOne.J1 K) K (([] : List Int), ([] : List Int), 0)

def wait_New.f : Option ((List wait_call) × (List api_Reply)) :=
  some (([] : List wait_call), ([] : List api_Reply))

def slices_Clone_sbyte_byte.f (x0 : List UInt8) : Option (List UInt8) :=
  app 140737488355328 ([] : List UInt8) x0

def mach_StillEntry.f (x0 : api_Entry) : Option (api_Entry) :=
  Option.bind (slices_Clone_sbyte_byte.f x0.Cmd.Key) fun t_7 =>
  Option.bind (slices_Clone_sbyte_byte.f x0.Cmd.Val) fun t_15 =>
  Option.bind (slices_Clone_sbyte_byte.f x0.Cmd.Old) fun t_23 =>
  some (⟨x0.Sess, x0.Seq, (⟨x0.Cmd.Kind, x0.Cmd.Who, t_7, t_15, t_23⟩ : api_Cmd)⟩ : api_Entry)

def wait_Calls_Waiting.f (x0_l : List wait_call) (x0_done : List api_Reply) : Option (Int) :=
  some (x0_l.length : Int)

def wait_Calls_Next.J1 (K : Nat) (x0_done : List api_Reply) (x_3 : List api_Entry) (x_8 : List wait_call) : Option ((List api_Entry) × (List wait_call) × (List api_Reply)) :=
  some (x_3, x_8, x0_done)
def wait_Calls_Next.J2 (K : Nat) (x_21 : List wait_call) (x_26 : Int) (t_34 : wait_call) (x_16 : List api_Entry) (again_28 : (List api_Entry) × (List wait_call) × Int → Option ((List api_Entry) × (List wait_call) × (List api_Reply))) (x_50 : Bool) : Option ((List api_Entry) × (List wait_call) × (List api_Reply)) :=
  if x_50 = true then (
  Option.bind (ix x_21 x_26) fun t_54 =>
  Option.bind (mach_StillEntry.f t_34.e) fun t_67 =>
  Option.bind (app 1353245080339 x_16 ([t_67] : List api_Entry)) fun t_92 =>
  again_28 (t_92, (x_21.set (x_26).toNat (⟨t_54.e, true⟩ : wait_call)), w64 (x_26 + 1)))
  else (
  again_28 (x_16, x_21, w64 (x_26 + 1)))
def wait_Calls_Next.B1 (K : Nat) (x0_l : List wait_call) (x1 : Int) (ex_28 : (List api_Entry) × (List wait_call) → Option ((List api_Entry) × (List wait_call) × (List api_Reply))) (again_28 : (List api_Entry) × (List wait_call) × Int → Option ((List api_Entry) × (List wait_call) × (List api_Reply))) (x_16 : List api_Entry) (x_21 : List wait_call) (x_26 : Int) : Option ((List api_Entry) × (List wait_call) × (List api_Reply)) :=
  if x_26 < (x0_l.length : Int) then (
  Option.bind (ix x_21 x_26) fun t_34 =>
  if t_34.sent = true then (
  wait_Calls_Next.J2 K x_21 x_26 t_34 x_16 again_28 false)
  else (
  wait_Calls_Next.J2 K x_21 x_26 t_34 x_16 again_28 (decide ((x_16.length : Int) < x1))))
  else (
  ex_28 (x_16, x_21))
def wait_Calls_Next.L1 (K : Nat) (x0_l : List wait_call) (x1 : Int) (ex_28 : (List api_Entry) × (List wait_call) → Option ((List api_Entry) × (List wait_call) × (List api_Reply))) : Nat → (List api_Entry) × (List wait_call) × Int → Option ((List api_Entry) × (List wait_call) × (List api_Reply)) :=
  iter fun again v => wait_Calls_Next.B1 K x0_l x1 ex_28 again v.1 v.2.1 v.2.2
def wait_Calls_Next.f (K : Nat) (x0_l : List wait_call) (x0_done : List api_Reply) (x1 : Int) : Option ((List api_Entry) × (List wait_call) × (List api_Reply)) :=
  wait_Calls_Next.L1 K x0_l x1 (fun v => wait_Calls_Next.J1 K x0_done v.1 v.2) K (([] : List api_Entry), x0_l, 0)

def slices_Delete_shocket_wait_call_hocket_wait_call.f (x0 : List wait_call) (x1 : Int) (x2 : Int) : Option ((List wait_call)) :=
  Option.bind (must (0 ≤ x1 ∧ x1 ≤ x2 ∧ x2 ≤ (x0.length : Int))) fun u_1 =>
  if x1 = x2 then (
  some x0)
  else (
  some (x0.take (x1).toNat ++ x0.drop (x2).toNat))



def wait_Calls_Take.f (x0_l : List wait_call) (x0_done : List api_Reply) : Option ((List api_Reply) × (List wait_call) × (List api_Reply)) :=
  some (x0_done, x0_l, ([] : List api_Reply))

def wait_Calls_Again.J1 (K : Nat) (x0_done : List api_Reply) (x_3 : List wait_call) : Option ((List wait_call) × (List api_Reply)) :=
  some (x_3, x0_done)
def wait_Calls_Again.B1 (K : Nat) (x0_l : List wait_call) (ex_17 : (List wait_call) → Option ((List wait_call) × (List api_Reply))) (again_17 : Int × (List wait_call) → Option ((List wait_call) × (List api_Reply))) (x_11 : Int) (x_12 : List wait_call) : Option ((List wait_call) × (List api_Reply)) :=
  if x_11 < (x0_l.length : Int) then (
  Option.bind (ix x_12 x_11) fun t_21 =>
  again_17 (w64 (x_11 + 1), (x_12.set (x_11).toNat (⟨t_21.e, false⟩ : wait_call))))
  else (
  ex_17 x_12)
def wait_Calls_Again.L1 (K : Nat) (x0_l : List wait_call) (ex_17 : (List wait_call) → Option ((List wait_call) × (List api_Reply))) : Nat → Int × (List wait_call) → Option ((List wait_call) × (List api_Reply)) :=
  iter fun again v => wait_Calls_Again.B1 K x0_l ex_17 again v.1 v.2
def wait_Calls_Again.f (K : Nat) (x0_l : List wait_call) (x0_done : List api_Reply) : Option ((List wait_call) × (List api_Reply)) :=
  wait_Calls_Again.L1 K x0_l (fun v => wait_Calls_Again.J1 K x0_done v) K (0, x0_l)

def hocketlaw7_Keys.f (x0 : Int) : Option ((List UInt8)) :=
  Option.bind (ix ([([] : List UInt8), ([97] : List UInt8), ([98] : List UInt8), ([99] : List UInt8), ([97, 98] : List UInt8), ([97, 98, 99] : List UInt8), ([122] : List UInt8), ([0] : List UInt8), ([255] : List UInt8), ([97, 98, 99, 100, 101, 102, 103, 104] : List UInt8), ([97, 98, 99, 100, 101, 102, 103, 104, 105] : List UInt8), ([107, 49] : List UInt8), ([107, 50] : List UInt8), ([107, 51] : List UInt8), ([107, 52] : List UInt8), ([107, 53] : List UInt8)] : List (List UInt8)) (band .i64 x0 15)) fun t_7 =>
  Option.bind (must (t_7.length ≤ 9223372036854775807)) fun u_12 =>
  some t_7

def hocketlaw8_Cmd.J3 (x0 : Int) (x_23 : api_Cmd) (x_39 : Int) : Option (api_Cmd) :=
  if (band .i64 (shr .i64 x0 19) 31) = 0 then (
  some (⟨band .i64 (shr .i64 x0 24) 31, w64 ((band .i64 (shr .i64 x0 17) 2047) - 20), x_23.Key, x_23.Val, x_23.Old⟩ : api_Cmd))
  else (
  some (⟨x_39, x_23.Who, x_23.Key, x_23.Val, x_23.Old⟩ : api_Cmd))
def hocketlaw8_Cmd.J2 (x0 : Int) (x_23 : api_Cmd) (x_35 : Bool) : Option (api_Cmd) :=
  if x_35 = true then (
  Option.bind (ix ([1, 2, 4, 9] : List Int) (band .i64 (shr .i64 x0 17) 3)) fun t_55 =>
  hocketlaw8_Cmd.J3 x0 x_23 t_55)
  else (
  hocketlaw8_Cmd.J3 x0 x_23 x_23.Kind)
def hocketlaw8_Cmd.J1 (x0 : Int) (x_23 : api_Cmd) : Option (api_Cmd) :=
  if x_23.Kind = 0 then (
  hocketlaw8_Cmd.J2 x0 x_23 true)
  else (
  hocketlaw8_Cmd.J2 x0 x_23 (x_23.Kind == 12))
def hocketlaw8_Cmd.f (x0 : Int) : Option (api_Cmd) :=
  Option.bind (ix ([([] : List UInt8), ([97] : List UInt8), ([98] : List UInt8), ([97, 98] : List UInt8), ([118, 97, 108, 117, 101] : List UInt8), ([48, 49, 50, 51, 52, 53, 54, 55, 56, 57, 97, 98, 99, 100, 101, 102] : List UInt8), ([48, 49, 50, 51, 52, 53, 54, 55, 56, 57, 97, 98, 99, 100, 101, 102, 103] : List UInt8), ([0, 255] : List UInt8)] : List (List UInt8)) (band .i64 (shr .i64 x0 5) 7)) fun t_9 =>
  Option.bind (must (t_9.length ≤ 9223372036854775807)) fun u_14 =>
  Option.bind (hocketlaw7_Keys.f (shr .i64 x0 11)) fun t_63 =>
  Option.bind (ix ([([] : List UInt8), ([97] : List UInt8), ([98] : List UInt8), ([97, 98] : List UInt8)] : List (List UInt8)) (band .i64 (shr .i64 x0 15) 3)) fun t_75 =>
  Option.bind (must (t_75.length ≤ 9223372036854775807)) fun u_80 =>
  hocketlaw8_Cmd.J1 x0 (⟨w64 ((Int.tmod (band .i64 x0 31) 13) + 0), band .i64 (shr .i64 x0 8) 7, t_63, t_9, t_75⟩ : api_Cmd)

def hocketlaw10_Entry.f (x0 : Int) (x1 : Int) : Option (api_Entry) :=
  Option.bind (hocketlaw8_Cmd.f x0) fun t_3 =>
  some (⟨w64 ((Int.tmod (band .i64 (shr .i64 x0 25) 7) 6) + 1), w64 ((w64 ((w64 (Int.tdiv x1 3)) + (band .i64 (shr .i64 x0 28) 1))) + 1), t_3⟩ : api_Entry)

def hocketref4_SameEntry.f (x0 : api_Entry) (x1 : api_Entry) : Option (Bool) :=
  if x0.Sess = x1.Sess then (
  if x0.Seq = x1.Seq then (
  if x0.Cmd.Kind = x1.Cmd.Kind then (
  if x0.Cmd.Who = x1.Cmd.Who then (
  if x0.Cmd.Key = x1.Cmd.Key then (
  if x0.Cmd.Val = x1.Cmd.Val then (
  some (x0.Cmd.Old == x1.Cmd.Old))
  else (
  some false))
  else (
  some false))
  else (
  some false))
  else (
  some false))
  else (
  some false))
  else (
  some false)

def hocketref15_Calls_Call.J1 (K : Nat) (x0_l : List hocketref15_call) (x0_r : List api_Reply) (x1 : api_Entry) : Option (Bool × (List hocketref15_call) × (List api_Reply)) :=
  if (x0_l.length : Int) ≥ 8 then (
  some (false, x0_l, x0_r))
  else (
  Option.bind (app 1256584717458 ([] : List hocketref15_call) x0_l) fun t_17 =>
  Option.bind (app 1256584717458 t_17 ([(⟨x1, false⟩ : hocketref15_call)] : List hocketref15_call)) fun t_29 =>
  some (true, t_29, x0_r))
def hocketref15_Calls_Call.J2 (K : Nat) (x0_l : List hocketref15_call) (x0_r : List api_Reply) (again_189 : Int → Option (Bool × (List hocketref15_call) × (List api_Reply))) (x_188 : Int) (x_196 : Bool) : Option (Bool × (List hocketref15_call) × (List api_Reply)) :=
  if x_196 = true then (
  some (true, x0_l, x0_r))
  else (
  again_189 (w64 (x_188 + 1)))
def hocketref15_Calls_Call.B1 (K : Nat) (x0_l : List hocketref15_call) (x1 : api_Entry) (x0_r : List api_Reply) (ex_189 : Unit → Option (Bool × (List hocketref15_call) × (List api_Reply))) (again_189 : Int → Option (Bool × (List hocketref15_call) × (List api_Reply))) (x_188 : Int) : Option (Bool × (List hocketref15_call) × (List api_Reply)) :=
  if x_188 < (x0_l.length : Int) then (
  Option.bind (ix x0_l x_188) fun t_201 =>
  if t_201.e.Sess = x1.Sess then (
  Option.bind (ix x0_l x_188) fun t_213 =>
  hocketref15_Calls_Call.J2 K x0_l x0_r again_189 x_188 (t_213.e.Seq == x1.Seq))
  else (
  hocketref15_Calls_Call.J2 K x0_l x0_r again_189 x_188 false))
  else (
  ex_189 ())
def hocketref15_Calls_Call.L1 (K : Nat) (x0_l : List hocketref15_call) (x1 : api_Entry) (x0_r : List api_Reply) (ex_189 : Unit → Option (Bool × (List hocketref15_call) × (List api_Reply))) : Nat → Int → Option (Bool × (List hocketref15_call) × (List api_Reply)) :=
  iter fun again v => hocketref15_Calls_Call.B1 K x0_l x1 x0_r ex_189 again v
def hocketref15_Calls_Call.f (K : Nat) (x0_l : List hocketref15_call) (x0_r : List api_Reply) (x1 : api_Entry) : Option (Bool × (List hocketref15_call) × (List api_Reply)) :=
  hocketref15_Calls_Call.L1 K x0_l x1 x0_r (fun v => hocketref15_Calls_Call.J1 K x0_l x0_r x1) K 0

def hocketref4_SameEntries.J1 (K : Nat) : Option (Bool) :=
  some true
def hocketref4_SameEntries.B1 (K : Nat) (x0 : List api_Entry) (x1 : List api_Entry) (ex_9 : Unit → Option (Bool)) (again_9 : Int → Option (Bool)) (x_8 : Int) : Option (Bool) :=
  if x_8 < (x0.length : Int) then (
  Option.bind (ix x0 x_8) fun t_16 =>
  Option.bind (ix x1 x_8) fun t_27 =>
  Option.bind (hocketref4_SameEntry.f t_16 t_27) fun t_38 =>
  if t_38 = true then (
  again_9 (w64 (x_8 + 1)))
  else (
  some false))
  else (
  ex_9 ())
def hocketref4_SameEntries.L1 (K : Nat) (x0 : List api_Entry) (x1 : List api_Entry) (ex_9 : Unit → Option (Bool)) : Nat → Int → Option (Bool) :=
  iter fun again v => hocketref4_SameEntries.B1 K x0 x1 ex_9 again v
def hocketref4_SameEntries.f (K : Nat) (x0 : List api_Entry) (x1 : List api_Entry) : Option (Bool) :=
  if (x0.length : Int) = (x1.length : Int) then (
  hocketref4_SameEntries.L1 K x0 x1 (fun v => hocketref4_SameEntries.J1 K) K 0)
  else (
  some false)

def hocketref15_Calls_Next.J1 (K : Nat) (x0_r : List api_Reply) (x_3 : List api_Entry) (x_8 : List hocketref15_call) : Option ((List api_Entry) × (List hocketref15_call) × (List api_Reply)) :=
  some (x_3, x_8, x0_r)
def hocketref15_Calls_Next.J2 (K : Nat) (x_22 : List hocketref15_call) (x_21 : Int) (again_27 : (List api_Entry) × Int × (List hocketref15_call) → Option ((List api_Entry) × (List hocketref15_call) × (List api_Reply))) (x_16 : List api_Entry) (ex_27 : (List api_Entry) × (List hocketref15_call) → Option ((List api_Entry) × (List hocketref15_call) × (List api_Reply))) (x_33 : Bool) : Option ((List api_Entry) × (List hocketref15_call) × (List api_Reply)) :=
  if x_33 = true then (
  Option.bind (ix x_22 x_21) fun t_38 =>
  if t_38.sent = true then (
  again_27 (x_16, w64 (x_21 + 1), x_22))
  else (
  Option.bind (ix x_22 x_21) fun t_50 =>
  Option.bind (ix (x_22.set (x_21).toNat (⟨t_50.e, true⟩ : hocketref15_call)) x_21) fun t_63 =>
  Option.bind (app 1353245080339 x_16 ([t_63.e] : List api_Entry)) fun t_80 =>
  again_27 (t_80, w64 (x_21 + 1), (x_22.set (x_21).toNat (⟨t_50.e, true⟩ : hocketref15_call)))))
  else (
  ex_27 (x_16, x_22))
def hocketref15_Calls_Next.B1 (K : Nat) (x1 : Int) (ex_27 : (List api_Entry) × (List hocketref15_call) → Option ((List api_Entry) × (List hocketref15_call) × (List api_Reply))) (again_27 : (List api_Entry) × Int × (List hocketref15_call) → Option ((List api_Entry) × (List hocketref15_call) × (List api_Reply))) (x_16 : List api_Entry) (x_21 : Int) (x_22 : List hocketref15_call) : Option ((List api_Entry) × (List hocketref15_call) × (List api_Reply)) :=
  if x_21 < (x_22.length : Int) then (
  hocketref15_Calls_Next.J2 K x_22 x_21 again_27 x_16 ex_27 (decide ((x_16.length : Int) < x1)))
  else (
  hocketref15_Calls_Next.J2 K x_22 x_21 again_27 x_16 ex_27 false)
def hocketref15_Calls_Next.L1 (K : Nat) (x1 : Int) (ex_27 : (List api_Entry) × (List hocketref15_call) → Option ((List api_Entry) × (List hocketref15_call) × (List api_Reply))) : Nat → (List api_Entry) × Int × (List hocketref15_call) → Option ((List api_Entry) × (List hocketref15_call) × (List api_Reply)) :=
  iter fun again v => hocketref15_Calls_Next.B1 K x1 ex_27 again v.1 v.2.1 v.2.2
def hocketref15_Calls_Next.f (K : Nat) (x0_l : List hocketref15_call) (x0_r : List api_Reply) (x1 : Int) : Option ((List api_Entry) × (List hocketref15_call) × (List api_Reply)) :=
  hocketref15_Calls_Next.L1 K x1 (fun v => hocketref15_Calls_Next.J1 K x0_r v.1 v.2) K (([] : List api_Entry), 0, x0_l)

def hocketref15_Calls_Done.J1 (K : Nat) (x0_l : List hocketref15_call) (x0_r : List api_Reply) : Option (Bool × (List hocketref15_call) × (List api_Reply)) :=
  some (false, x0_l, x0_r)
def hocketref15_Calls_Done.J4 (K : Nat) (x_22 : List hocketref15_call) (x_31 : List api_Reply) : Option (Bool × (List hocketref15_call) × (List api_Reply)) :=
  some (true, x_22, x_31)
def hocketref15_Calls_Done.J3 (K : Nat) (x0_r : List api_Reply) (x1 : api_Done) (x_22 : List hocketref15_call) : Option (Bool × (List hocketref15_call) × (List api_Reply)) :=
  Option.bind (app 2513169434916 x0_r ([(⟨x1.Entry.Sess, x1.Entry.Seq, x1.Result⟩ : api_Reply)] : List api_Reply)) fun t_45 =>
  hocketref15_Calls_Done.J4 K x_22 t_45
def hocketref15_Calls_Done.J2 (K : Nat) (x0_l : List hocketref15_call) (x_8 : Int) (x0_r : List api_Reply) (x1 : api_Done) (again_9 : Int → Option (Bool × (List hocketref15_call) × (List api_Reply))) (x_16 : Bool) : Option (Bool × (List hocketref15_call) × (List api_Reply)) :=
  if x_16 = true then (
  Option.bind (cut x0_l 0 x_8) fun t_74 =>
  Option.bind (app 1256584717458 ([] : List hocketref15_call) t_74) fun t_77 =>
  Option.bind (cut x0_l (w64 (x_8 + 1)) (x0_l.length : Int)) fun t_83 =>
  Option.bind (app 1256584717458 t_77 t_83) fun t_86 =>
  hocketref15_Calls_Done.J3 K x0_r x1 t_86)
  else (
  again_9 (w64 (x_8 + 1)))
def hocketref15_Calls_Done.B1 (K : Nat) (x0_l : List hocketref15_call) (x1 : api_Done) (x0_r : List api_Reply) (ex_9 : Unit → Option (Bool × (List hocketref15_call) × (List api_Reply))) (again_9 : Int → Option (Bool × (List hocketref15_call) × (List api_Reply))) (x_8 : Int) : Option (Bool × (List hocketref15_call) × (List api_Reply)) :=
  if x_8 < (x0_l.length : Int) then (
  Option.bind (ix x0_l x_8) fun t_239 =>
  if t_239.e.Sess = x1.Entry.Sess then (
  Option.bind (ix x0_l x_8) fun t_251 =>
  hocketref15_Calls_Done.J2 K x0_l x_8 x0_r x1 again_9 (t_251.e.Seq == x1.Entry.Seq))
  else (
  hocketref15_Calls_Done.J2 K x0_l x_8 x0_r x1 again_9 false))
  else (
  ex_9 ())
def hocketref15_Calls_Done.L1 (K : Nat) (x0_l : List hocketref15_call) (x1 : api_Done) (x0_r : List api_Reply) (ex_9 : Unit → Option (Bool × (List hocketref15_call) × (List api_Reply))) : Nat → Int → Option (Bool × (List hocketref15_call) × (List api_Reply)) :=
  iter fun again v => hocketref15_Calls_Done.B1 K x0_l x1 x0_r ex_9 again v
def hocketref15_Calls_Done.f (K : Nat) (x0_l : List hocketref15_call) (x0_r : List api_Reply) (x1 : api_Done) : Option (Bool × (List hocketref15_call) × (List api_Reply)) :=
  hocketref15_Calls_Done.L1 K x0_l x1 x0_r (fun v => hocketref15_Calls_Done.J1 K x0_l x0_r) K 0

def hocketref15_Calls_Again.J1 (K : Nat) (x0_r : List api_Reply) (x_3 : List hocketref15_call) : Option ((List hocketref15_call) × (List api_Reply)) :=
  some (x_3, x0_r)
def hocketref15_Calls_Again.B1 (K : Nat) (ex_17 : (List hocketref15_call) → Option ((List hocketref15_call) × (List api_Reply))) (again_17 : Int × (List hocketref15_call) → Option ((List hocketref15_call) × (List api_Reply))) (x_11 : Int) (x_12 : List hocketref15_call) : Option ((List hocketref15_call) × (List api_Reply)) :=
  if x_11 < (x_12.length : Int) then (
  Option.bind (ix x_12 x_11) fun t_21 =>
  again_17 (w64 (x_11 + 1), (x_12.set (x_11).toNat (⟨t_21.e, false⟩ : hocketref15_call))))
  else (
  ex_17 x_12)
def hocketref15_Calls_Again.L1 (K : Nat) (ex_17 : (List hocketref15_call) → Option ((List hocketref15_call) × (List api_Reply))) : Nat → Int × (List hocketref15_call) → Option ((List hocketref15_call) × (List api_Reply)) :=
  iter fun again v => hocketref15_Calls_Again.B1 K ex_17 again v.1 v.2
def hocketref15_Calls_Again.f (K : Nat) (x0_l : List hocketref15_call) (x0_r : List api_Reply) : Option ((List hocketref15_call) × (List api_Reply)) :=
  hocketref15_Calls_Again.L1 K (fun v => hocketref15_Calls_Again.J1 K x0_r v) K (0, x0_l)

def hocketref15_SameReplies.J1 (K : Nat) : Option (Bool) :=
  some true
def hocketref15_SameReplies.J2 (K : Nat) (again_9 : Int → Option (Bool)) (x_8 : Int) (x_16 : Bool) : Option (Bool) :=
  if x_16 = true then (
  some false)
  else (
  again_9 (w64 (x_8 + 1)))
def hocketref15_SameReplies.B1 (K : Nat) (x0 : List api_Reply) (x1 : List api_Reply) (ex_9 : Unit → Option (Bool)) (again_9 : Int → Option (Bool)) (x_8 : Int) : Option (Bool) :=
  if x_8 < (x0.length : Int) then (
  Option.bind (ix x0 x_8) fun t_21 =>
  Option.bind (ix x1 x_8) fun t_28 =>
  if t_21.Sess = t_28.Sess then (
  Option.bind (ix x0 x_8) fun t_36 =>
  Option.bind (ix x1 x_8) fun t_43 =>
  if t_36.Seq = t_43.Seq then (
  Option.bind (ix x0 x_8) fun t_51 =>
  Option.bind (ix x1 x_8) fun t_58 =>
  Option.bind (hocketref4_SameResult.f t_51.Result t_58.Result) fun t_65 =>
  hocketref15_SameReplies.J2 K again_9 x_8 (!t_65))
  else (
  hocketref15_SameReplies.J2 K again_9 x_8 true))
  else (
  hocketref15_SameReplies.J2 K again_9 x_8 true))
  else (
  ex_9 ())
def hocketref15_SameReplies.L1 (K : Nat) (x0 : List api_Reply) (x1 : List api_Reply) (ex_9 : Unit → Option (Bool)) : Nat → Int → Option (Bool) :=
  iter fun again v => hocketref15_SameReplies.B1 K x0 x1 ex_9 again v
def hocketref15_SameReplies.f (K : Nat) (x0 : List api_Reply) (x1 : List api_Reply) : Option (Bool) :=
  if (x0.length : Int) = (x1.length : Int) then (
  hocketref15_SameReplies.L1 K x0 x1 (fun v => hocketref15_SameReplies.J1 K) K 0)
  else (
  some false)

def hocketref15_Calls_Take.f (x0_l : List hocketref15_call) (x0_r : List api_Reply) : Option ((List api_Reply) × (List hocketref15_call) × (List api_Reply)) :=
  some (x0_r, x0_l, ([] : List api_Reply))

def hocketref15_Calls_Waiting.f (x0_l : List hocketref15_call) (x0_r : List api_Reply) : Option (Int) :=
  some (x0_l.length : Int)

def wait_Calls_find_1.f (x0 : wait_call) (x1_Sess : Int) (x1_Seq : Int) (x1_Cmd_Kind : Int) (x1_Cmd_Who : Int) (x1_Cmd_Key : List UInt8) (x1_Cmd_Val : List UInt8) (x1_Cmd_Old : List UInt8) : Option (Bool) :=
  if x0.e.Sess = x1_Sess then (
  some (x0.e.Seq == x1_Seq))
  else (
  some false)

def slices_IndexFunc_shocket_wait_call_hocket_wait_call_53.J1 (K : Nat) : Option (Int) :=
  some (-1)
def slices_IndexFunc_shocket_wait_call_hocket_wait_call_53.B1 (K : Nat) (x0 : List wait_call) (x2_Sess : Int) (x2_Seq : Int) (x2_Cmd_Kind : Int) (x2_Cmd_Who : Int) (x2_Cmd_Key : List UInt8) (x2_Cmd_Val : List UInt8) (x2_Cmd_Old : List UInt8) (ex_7 : Unit → Option (Int)) (again_7 : Int → Option (Int)) (x_6 : Int) : Option (Int) :=
  if x_6 < (x0.length : Int) then (
  Option.bind (ix x0 x_6) fun t_12 =>
  Option.bind (wait_Calls_find_1.f t_12 x2_Sess x2_Seq x2_Cmd_Kind x2_Cmd_Who x2_Cmd_Key x2_Cmd_Val x2_Cmd_Old) fun t_23 =>
  if t_23 = true then (
  some x_6)
  else (
  again_7 (w64 (x_6 + 1))))
  else (
  ex_7 ())
def slices_IndexFunc_shocket_wait_call_hocket_wait_call_53.L1 (K : Nat) (x0 : List wait_call) (x2_Sess : Int) (x2_Seq : Int) (x2_Cmd_Kind : Int) (x2_Cmd_Who : Int) (x2_Cmd_Key : List UInt8) (x2_Cmd_Val : List UInt8) (x2_Cmd_Old : List UInt8) (ex_7 : Unit → Option (Int)) : Nat → Int → Option (Int) :=
  iter fun again v => slices_IndexFunc_shocket_wait_call_hocket_wait_call_53.B1 K x0 x2_Sess x2_Seq x2_Cmd_Kind x2_Cmd_Who x2_Cmd_Key x2_Cmd_Val x2_Cmd_Old ex_7 again v
def slices_IndexFunc_shocket_wait_call_hocket_wait_call_53.f (K : Nat) (x0 : List wait_call) (x2_Sess : Int) (x2_Seq : Int) (x2_Cmd_Kind : Int) (x2_Cmd_Who : Int) (x2_Cmd_Key : List UInt8) (x2_Cmd_Val : List UInt8) (x2_Cmd_Old : List UInt8) : Option (Int) :=
  slices_IndexFunc_shocket_wait_call_hocket_wait_call_53.L1 K x0 x2_Sess x2_Seq x2_Cmd_Kind x2_Cmd_Who x2_Cmd_Key x2_Cmd_Val x2_Cmd_Old (fun v => slices_IndexFunc_shocket_wait_call_hocket_wait_call_53.J1 K) K 0

def wait_Calls_find.f (K : Nat) (x0_l : List wait_call) (x0_done : List api_Reply) (x1 : api_Entry) : Option (Int) :=
  Option.bind (slices_IndexFunc_shocket_wait_call_hocket_wait_call_53.f K x0_l x1.Sess x1.Seq x1.Cmd.Kind x1.Cmd.Who x1.Cmd.Key x1.Cmd.Val x1.Cmd.Old) fun t_3 =>
  some t_3

def wait_Calls_Call.f (K : Nat) (x0_l : List wait_call) (x0_done : List api_Reply) (x1 : api_Entry) : Option (Bool × (List wait_call) × (List api_Reply)) :=
  Option.bind (wait_Calls_find.f K x0_l x0_done x1) fun t_4 =>
  if t_4 ≥ 0 then (
  some (true, x0_l, x0_done))
  else (
  if (x0_l.length : Int) ≥ 8 then (
  some (false, x0_l, x0_done))
  else (
  Option.bind (mach_StillEntry.f x1) fun t_12 =>
  Option.bind (app 1256584717458 x0_l ([(⟨t_12, false⟩ : wait_call)] : List wait_call)) fun t_37 =>
  some (true, t_37, x0_done)))

def wait_Calls_Done.f (K : Nat) (x0_l : List wait_call) (x0_done : List api_Reply) (x1 : api_Done) : Option (Bool × (List wait_call) × (List api_Reply)) :=
  Option.bind (wait_Calls_find.f K x0_l x0_done x1.Entry) fun t_3 =>
  if t_3 < 0 then (
  some (false, x0_l, x0_done))
  else (
  Option.bind (slices_Delete_shocket_wait_call_hocket_wait_call.f x0_l t_3 (w64 (t_3 + 1))) fun t_9 =>
  Option.bind (slices_Clone_sbyte_byte.f x1.Result.Val) fun t_22 =>
  Option.bind (app 2513169434916 x0_done ([(⟨x1.Entry.Sess, x1.Entry.Seq, (⟨x1.Result.Err, t_22, x1.Result.N⟩ : api_Result)⟩ : api_Reply)] : List api_Reply)) fun t_40 =>
  some (true, t_9, t_40))

def hocketlaw20_awake.f (K : Nat) : Option (Unit) :=
  Option.bind (wait_New.f) fun t_1 =>
  Option.bind (wait_Calls_Call.f K t_1.1 t_1.2 (⟨1, 2, (⟨1, 0, ([] : List UInt8), ([] : List UInt8), ([] : List UInt8)⟩ : api_Cmd)⟩ : api_Entry)) fun t_20 =>
  Option.bind (wait_Calls_Call.f K t_20.2.1 t_20.2.2 (⟨1, 2, (⟨1, 0, ([] : List UInt8), ([] : List UInt8), ([] : List UInt8)⟩ : api_Cmd)⟩ : api_Entry)) fun t_32 =>
  Option.bind (wait_Calls_Next.f K t_32.2.1 t_32.2.2 5) fun t_44 =>
  Option.bind (wait_Calls_Next.f K t_44.2.1 t_44.2.2 5) fun t_60 =>
  Option.bind (wait_Calls_Again.f K t_60.2.1 t_60.2.2) fun t_76 =>
  Option.bind (wait_Calls_Next.f K t_76.1 t_76.2 5) fun t_88 =>
  Option.bind (wait_Calls_Done.f K t_88.2.1 t_88.2.2 (⟨4, (⟨1, 2, (⟨1, 0, ([] : List UInt8), ([] : List UInt8), ([] : List UInt8)⟩ : api_Cmd)⟩ : api_Entry), (⟨0, ([] : List UInt8), 9⟩ : api_Result)⟩ : api_Done)) fun t_104 =>
  Option.bind (wait_Calls_Done.f K t_104.2.1 t_104.2.2 (⟨0, (⟨1, 2, (⟨1, 0, ([] : List UInt8), ([] : List UInt8), ([] : List UInt8)⟩ : api_Cmd)⟩ : api_Entry), (⟨0, ([] : List UInt8), 0⟩ : api_Result)⟩ : api_Done)) fun t_116 =>
  Option.bind (wait_Calls_Take.f t_116.2.1 t_116.2.2) fun t_128 =>
  if t_20.1 = true then (
  if t_32.1 = true then (
  if (t_44.1.length : Int) = 1 then (
  if (t_60.1.length : Int) = 0 then (
  if (t_88.1.length : Int) = 1 then (
  if t_104.1 = true then (
  if t_116.1 = true then (
  none)
  else (
  if (t_128.1.length : Int) = 1 then (
  Option.bind (ix t_128.1 0) fun t_153 =>
  if t_153.Result.N = 9 then (
  Option.bind (wait_Calls_Take.f t_128.2.1 t_128.2.2) fun t_161 =>
  if (t_161.1.length : Int) = 0 then (
  Option.bind (wait_Calls_Waiting.f t_161.2.1 t_161.2.2) fun t_178 =>
  if t_178 = 0 then (
  some ())
  else (
  none))
  else (
  none))
  else (
  none))
  else (
  none)))
  else (
  none))
  else (
  none))
  else (
  none))
  else (
  none))
  else (
  none))
  else (
  none)

def hocketlaw20_WaitPlays.J1 (K : Nat) (x_19 : wait_Calls) (x_28 : hocketref15_Calls) : Option (Unit) :=
  Option.bind (wait_Calls_Take.f x_19.l x_19.done) fun t_40 =>
  Option.bind (hocketref15_Calls_Take.f x_28.l x_28.r) fun t_56 =>
  Option.bind (hocketref15_SameReplies.f K t_40.1 t_56.1) fun t_72 =>
  if t_72 = true then (
  Option.bind (hocketlaw20_awake.f K) fun t_77 =>
  some ())
  else (
  none)
def hocketlaw20_WaitPlays.J4 (K : Nat) (again_101 : Int × wait_Calls × hocketref15_Calls → Option (Unit)) (x_82 : Int) (x_132 : wait_Calls) (x_141 : hocketref15_Calls) : Option (Unit) :=
  Option.bind (wait_Calls_Waiting.f x_132.l x_132.done) fun t_152 =>
  Option.bind (hocketref15_Calls_Waiting.f x_141.l x_141.r) fun t_156 =>
  if t_152 = t_156 then (
  again_101 (w64 (x_82 + 1), x_132, x_141))
  else (
  none)
def hocketlaw20_WaitPlays.J6 (K : Nat) (x0 : List Int) (x_82 : Int) (x_83 : wait_Calls) (x_92 : hocketref15_Calls) (again_101 : Int × wait_Calls × hocketref15_Calls → Option (Unit)) (t_126 : Int) (x_116 : api_Entry) (x_196 : Bool) : Option (Unit) :=
  if x_196 = true then (
  Option.bind (ix x0 x_82) fun t_200 =>
  Option.bind (wait_Calls_Next.f K x_83.l x_83.done (w64 ((band .i64 (shr .i64 t_200 4) 7) - 1))) fun t_205 =>
  Option.bind (hocketref15_Calls_Next.f K x_92.l x_92.r (w64 ((band .i64 (shr .i64 t_200 4) 7) - 1))) fun t_221 =>
  Option.bind (hocketref4_SameEntries.f K t_205.1 t_221.1) fun t_237 =>
  if t_237 = true then (
  hocketlaw20_WaitPlays.J4 K again_101 x_82 (⟨t_205.2.1, t_205.2.2⟩ : wait_Calls) (⟨t_221.2.1, t_221.2.2⟩ : hocketref15_Calls))
  else (
  none))
  else (
  if (band .i64 t_126 7) = 5 then (
  Option.bind (wait_Calls_Done.f K x_83.l x_83.done (⟨0, x_116, (⟨0, ([] : List UInt8), x_82⟩ : api_Result)⟩ : api_Done)) fun t_248 =>
  Option.bind (hocketref15_Calls_Done.f K x_92.l x_92.r (⟨0, x_116, (⟨0, ([] : List UInt8), x_82⟩ : api_Result)⟩ : api_Done)) fun t_260 =>
  if t_248.1 = t_260.1 then (
  hocketlaw20_WaitPlays.J4 K again_101 x_82 (⟨t_248.2.1, t_248.2.2⟩ : wait_Calls) (⟨t_260.2.1, t_260.2.2⟩ : hocketref15_Calls))
  else (
  none))
  else (
  if (band .i64 t_126 7) = 6 then (
  Option.bind (wait_Calls_Again.f K x_83.l x_83.done) fun t_274 =>
  Option.bind (hocketref15_Calls_Again.f K x_92.l x_92.r) fun t_286 =>
  hocketlaw20_WaitPlays.J4 K again_101 x_82 (⟨t_274.1, t_274.2⟩ : wait_Calls) (⟨t_286.1, t_286.2⟩ : hocketref15_Calls))
  else (
  Option.bind (wait_Calls_Take.f x_83.l x_83.done) fun t_298 =>
  Option.bind (hocketref15_Calls_Take.f x_92.l x_92.r) fun t_314 =>
  Option.bind (hocketref15_SameReplies.f K t_298.1 t_314.1) fun t_330 =>
  if t_330 = true then (
  hocketlaw20_WaitPlays.J4 K again_101 x_82 (⟨t_298.2.1, t_298.2.2⟩ : wait_Calls) (⟨t_314.2.1, t_314.2.2⟩ : hocketref15_Calls))
  else (
  none))))
def hocketlaw20_WaitPlays.J5 (K : Nat) (x_83 : wait_Calls) (x_116 : api_Entry) (x_92 : hocketref15_Calls) (again_101 : Int × wait_Calls × hocketref15_Calls → Option (Unit)) (x_82 : Int) (t_126 : Int) (x0 : List Int) (x_163 : Bool) : Option (Unit) :=
  if x_163 = true then (
  Option.bind (wait_Calls_Call.f K x_83.l x_83.done x_116) fun t_169 =>
  Option.bind (hocketref15_Calls_Call.f K x_92.l x_92.r x_116) fun t_181 =>
  if t_169.1 = t_181.1 then (
  hocketlaw20_WaitPlays.J4 K again_101 x_82 (⟨t_169.2.1, t_169.2.2⟩ : wait_Calls) (⟨t_181.2.1, t_181.2.2⟩ : hocketref15_Calls))
  else (
  none))
  else (
  if (band .i64 t_126 7) = 3 then (
  hocketlaw20_WaitPlays.J6 K x0 x_82 x_83 x_92 again_101 t_126 x_116 ((band .i64 t_126 7) == 3))
  else (
  hocketlaw20_WaitPlays.J6 K x0 x_82 x_83 x_92 again_101 t_126 x_116 ((band .i64 t_126 7) == 4)))
def hocketlaw20_WaitPlays.J3 (K : Nat) (x0 : List Int) (x_82 : Int) (x_83 : wait_Calls) (x_92 : hocketref15_Calls) (again_101 : Int × wait_Calls × hocketref15_Calls → Option (Unit)) (x_116 : api_Entry) : Option (Unit) :=
  Option.bind (ix x0 x_82) fun t_126 =>
  if (band .i64 t_126 7) = 0 then (
  hocketlaw20_WaitPlays.J5 K x_83 x_116 x_92 again_101 x_82 t_126 x0 ((band .i64 t_126 7) == 0))
  else (
  if (band .i64 t_126 7) = 1 then (
  hocketlaw20_WaitPlays.J5 K x_83 x_116 x_92 again_101 x_82 t_126 x0 ((band .i64 t_126 7) == 1))
  else (
  hocketlaw20_WaitPlays.J5 K x_83 x_116 x_92 again_101 x_82 t_126 x0 ((band .i64 t_126 7) == 2)))
def hocketlaw20_WaitPlays.J2 (K : Nat) (x0 : List Int) (x_82 : Int) (x_83 : wait_Calls) (x_92 : hocketref15_Calls) (again_101 : Int × wait_Calls × hocketref15_Calls → Option (Unit)) (ex_101 : wait_Calls × hocketref15_Calls → Option (Unit)) (x_108 : Bool) : Option (Unit) :=
  if x_108 = true then (
  Option.bind (ix x0 x_82) fun t_339 =>
  Option.bind (ix x0 x_82) fun t_344 =>
  Option.bind (hocketlaw10_Entry.f t_339 (band .i64 (shr .i64 t_344 4) 31)) fun t_349 =>
  hocketlaw20_WaitPlays.J3 K x0 x_82 x_83 x_92 again_101 t_349)
  else (
  ex_101 (x_83, x_92))
def hocketlaw20_WaitPlays.B1 (K : Nat) (x0 : List Int) (ex_101 : wait_Calls × hocketref15_Calls → Option (Unit)) (again_101 : Int × wait_Calls × hocketref15_Calls → Option (Unit)) (x_82 : Int) (x_83 : wait_Calls) (x_92 : hocketref15_Calls) : Option (Unit) :=
  if x_82 < (x0.length : Int) then (
  hocketlaw20_WaitPlays.J2 K x0 x_82 x_83 x_92 again_101 ex_101 (decide (x_82 < 60)))
  else (
  hocketlaw20_WaitPlays.J2 K x0 x_82 x_83 x_92 again_101 ex_101 false)
def hocketlaw20_WaitPlays.L1 (K : Nat) (x0 : List Int) (ex_101 : wait_Calls × hocketref15_Calls → Option (Unit)) : Nat → Int × wait_Calls × hocketref15_Calls → Option (Unit) :=
  iter fun again v => hocketlaw20_WaitPlays.B1 K x0 ex_101 again v.1 v.2.1 v.2.2
def hocketlaw20_WaitPlays.f (K : Nat) (x0 : List Int) : Option (Unit) :=
  Option.bind (wait_New.f) fun t_1 =>
  hocketlaw20_WaitPlays.L1 K x0 (fun v => hocketlaw20_WaitPlays.J1 K v.1 v.2) K (0, (⟨t_1.1, t_1.2⟩ : wait_Calls), (⟨([] : List hocketref15_call), ([] : List api_Reply)⟩ : hocketref15_Calls))

def hocketlaw20_WaitAll.J4 (K : Nat) (t_55 : (List api_Reply) × (List wait_call) × (List api_Reply)) (x0 : Int) : Option (Unit) :=
  Option.bind (wait_Calls_Waiting.f t_55.2.1 t_55.2.2) fun t_75 =>
  if t_75 ≤ (mn (band .i64 x0 15) 8) then (
  Option.bind (hocketlaw20_awake.f K) fun t_80 =>
  some ())
  else (
  none)
def hocketlaw20_WaitAll.B1 (K : Nat) (t_55 : (List api_Reply) × (List wait_call) × (List api_Reply)) (ex_86 : Unit → Option (Unit)) (again_86 : Int → Option (Unit)) (x_85 : Int) : Option (Unit) :=
  if x_85 < (t_55.1.length : Int) then (
  Option.bind (ix t_55.1 x_85) fun t_91 =>
  if t_91.Sess = t_91.Result.N then (
  if t_91.Seq = 1 then (
  again_86 (w64 (x_85 + 1)))
  else (
  none))
  else (
  none))
  else (
  ex_86 ())
def hocketlaw20_WaitAll.L1 (K : Nat) (t_55 : (List api_Reply) × (List wait_call) × (List api_Reply)) (ex_86 : Unit → Option (Unit)) : Nat → Int → Option (Unit) :=
  iter fun again v => hocketlaw20_WaitAll.B1 K t_55 ex_86 again v
def hocketlaw20_WaitAll.J3 (K : Nat) (x0 : Int) (x_43 : wait_Calls) : Option (Unit) :=
  Option.bind (wait_Calls_Take.f x_43.l x_43.done) fun t_55 =>
  hocketlaw20_WaitAll.L1 K t_55 (fun v => hocketlaw20_WaitAll.J4 K t_55 x0) K 0
def hocketlaw20_WaitAll.B2 (K : Nat) (x0 : Int) (x2 : Int) (ex_115 : wait_Calls → Option (Unit)) (again_115 : Int × wait_Calls → Option (Unit)) (x_105 : Int) (x_106 : wait_Calls) : Option (Unit) :=
  if x_105 < (mn (band .i64 x0 15) 8) then (
  Option.bind (wait_Calls_Done.f K x_106.l x_106.done (⟨0, (⟨w64 ((Int.tmod (w64 ((w64 (x_105 * 3)) + (band .i64 x2 7))) 8) + 1), 1, (⟨0, 0, ([] : List UInt8), ([] : List UInt8), ([] : List UInt8)⟩ : api_Cmd)⟩ : api_Entry), (⟨0, ([] : List UInt8), w64 ((Int.tmod (w64 ((w64 (x_105 * 3)) + (band .i64 x2 7))) 8) + 1)⟩ : api_Result)⟩ : api_Done)) fun t_120 =>
  if t_120.1 = (decide ((w64 ((Int.tmod (w64 ((w64 (x_105 * 3)) + (band .i64 x2 7))) 8) + 1)) ≤ (mn (band .i64 x0 15) 8))) then (
  again_115 (w64 (x_105 + 1), (⟨t_120.2.1, t_120.2.2⟩ : wait_Calls)))
  else (
  none))
  else (
  ex_115 x_106)
def hocketlaw20_WaitAll.L2 (K : Nat) (x0 : Int) (x2 : Int) (ex_115 : wait_Calls → Option (Unit)) : Nat → Int × wait_Calls → Option (Unit) :=
  iter fun again v => hocketlaw20_WaitAll.B2 K x0 x2 ex_115 again v.1 v.2
def hocketlaw20_WaitAll.J2 (K : Nat) (x0 : Int) (x2 : Int) (x_30 : wait_Calls) : Option (Unit) :=
  hocketlaw20_WaitAll.L2 K x0 x2 (fun v => hocketlaw20_WaitAll.J3 K x0 v) K (0, x_30)
def hocketlaw20_WaitAll.J5 (K : Nat) (x0 : Int) (again_144 : Int × wait_Calls → Option (Unit)) (x_134 : Int) (x_150 : Int) (x_151 : wait_Calls) : Option (Unit) :=
  if x_150 = (mn (band .i64 x0 15) 8) then (
  Option.bind (wait_Calls_Again.f K x_151.l x_151.done) fun t_164 =>
  again_144 (w64 (x_134 + 1), (⟨t_164.1, t_164.2⟩ : wait_Calls)))
  else (
  none)
def hocketlaw20_WaitAll.J6 (K : Nat) (again_188 : Int × Int × wait_Calls → Option (Unit)) (x_178 : Int) (t_193 : (List api_Entry) × (List wait_call) × (List api_Reply)) (x_211 : Int) : Option (Unit) :=
  again_188 (x_211, w64 (x_178 + 1), (⟨t_193.2.1, t_193.2.2⟩ : wait_Calls))
def hocketlaw20_WaitAll.B5 (K : Nat) (t_193 : (List api_Entry) × (List wait_call) × (List api_Reply)) (ex_217 : Int → Option (Unit)) (again_217 : Int × Int → Option (Unit)) (x_215 : Int) (x_216 : Int) : Option (Unit) :=
  if x_216 < (t_193.1.length : Int) then (
  Option.bind (ix t_193.1 x_216) fun t_221 =>
  if t_221.Sess = (w64 (x_215 + 1)) then (
  again_217 (w64 (x_215 + 1), w64 (x_216 + 1)))
  else (
  none))
  else (
  ex_217 x_215)
def hocketlaw20_WaitAll.L5 (K : Nat) (t_193 : (List api_Entry) × (List wait_call) × (List api_Reply)) (ex_217 : Int → Option (Unit)) : Nat → Int × Int → Option (Unit) :=
  iter fun again v => hocketlaw20_WaitAll.B5 K t_193 ex_217 again v.1 v.2
def hocketlaw20_WaitAll.B4 (K : Nat) (x1 : Int) (ex_188 : Int × wait_Calls → Option (Unit)) (again_188 : Int × Int × wait_Calls → Option (Unit)) (x_177 : Int) (x_178 : Int) (x_179 : wait_Calls) : Option (Unit) :=
  if x_178 < 10 then (
  Option.bind (wait_Calls_Next.f K x_179.l x_179.done (w64 ((band .i64 x1 3) + 1))) fun t_193 =>
  hocketlaw20_WaitAll.L5 K t_193 (fun v => hocketlaw20_WaitAll.J6 K again_188 x_178 t_193 v) K (x_177, 0))
  else (
  ex_188 (x_177, x_179))
def hocketlaw20_WaitAll.L4 (K : Nat) (x1 : Int) (ex_188 : Int × wait_Calls → Option (Unit)) : Nat → Int × Int × wait_Calls → Option (Unit) :=
  iter fun again v => hocketlaw20_WaitAll.B4 K x1 ex_188 again v.1 v.2.1 v.2.2
def hocketlaw20_WaitAll.B3 (K : Nat) (x1 : Int) (x0 : Int) (ex_144 : wait_Calls → Option (Unit)) (again_144 : Int × wait_Calls → Option (Unit)) (x_134 : Int) (x_135 : wait_Calls) : Option (Unit) :=
  if x_134 < 2 then (
  hocketlaw20_WaitAll.L4 K x1 (fun v => hocketlaw20_WaitAll.J5 K x0 again_144 x_134 v.1 v.2) K (0, 0, x_135))
  else (
  ex_144 x_135)
def hocketlaw20_WaitAll.L3 (K : Nat) (x1 : Int) (x0 : Int) (ex_144 : wait_Calls → Option (Unit)) : Nat → Int × wait_Calls → Option (Unit) :=
  iter fun again v => hocketlaw20_WaitAll.B3 K x1 x0 ex_144 again v.1 v.2
def hocketlaw20_WaitAll.J1 (K : Nat) (x1 : Int) (x0 : Int) (x2 : Int) (x_17 : wait_Calls) : Option (Unit) :=
  hocketlaw20_WaitAll.L3 K x1 x0 (fun v => hocketlaw20_WaitAll.J2 K x0 x2 v) K (0, x_17)
def hocketlaw20_WaitAll.B6 (K : Nat) (x0 : Int) (ex_248 : wait_Calls → Option (Unit)) (again_248 : Int × wait_Calls → Option (Unit)) (x_238 : Int) (x_239 : wait_Calls) : Option (Unit) :=
  if x_238 < (band .i64 x0 15) then (
  Option.bind (wait_Calls_Call.f K x_239.l x_239.done (⟨w64 (x_238 + 1), 1, (⟨0, 0, ([] : List UInt8), ([] : List UInt8), ([] : List UInt8)⟩ : api_Cmd)⟩ : api_Entry)) fun t_253 =>
  if t_253.1 = (decide (x_238 < 8)) then (
  again_248 (w64 (x_238 + 1), (⟨t_253.2.1, t_253.2.2⟩ : wait_Calls)))
  else (
  none))
  else (
  ex_248 x_239)
def hocketlaw20_WaitAll.L6 (K : Nat) (x0 : Int) (ex_248 : wait_Calls → Option (Unit)) : Nat → Int × wait_Calls → Option (Unit) :=
  iter fun again v => hocketlaw20_WaitAll.B6 K x0 ex_248 again v.1 v.2
def hocketlaw20_WaitAll.f (K : Nat) (x0 : Int) (x1 : Int) (x2 : Int) : Option (Unit) :=
  Option.bind (wait_New.f) fun t_1 =>
  hocketlaw20_WaitAll.L6 K x0 (fun v => hocketlaw20_WaitAll.J1 K x1 x0 x2 v) K (0, (⟨t_1.1, t_1.2⟩ : wait_Calls))
end Go.Gp
