/- The functions that the law reaches, told plainly. -/
import Derived.Test.YtbjefkmbpbdhbaaLa
namespace Go.Gp
set_option linter.unusedVariables false
structure api_Result where
  Err : Int
  Val : List UInt8
  N : Int
  deriving DecidableEq
structure An_s_old_v_want_e_val where
  s : List UInt8
  old : List UInt8
  v : List UInt8
  want : List UInt8
  e : Int
  val : List UInt8
  deriving DecidableEq
structure An_n_b_ok where
  n : Int
  b : List UInt8
  ok : Bool
  deriving DecidableEq
def slices_Clone_byte_byte.f (x0 : List UInt8) : Option (List UInt8) :=
  app 140737488355328 ([] : List UInt8) x0

def regs_Write.f (x0 : List UInt8) (x1 : List UInt8) : Option ((List UInt8) × api_Result) :=
  if (x1.length : Int) > 16 then (
  Option.bind (slices_Clone_byte_byte.f x0) fun t_5 =>
  some (t_5, (⟨1, ([] : List UInt8), 0⟩ : api_Result)))
  else (
  Option.bind (slices_Clone_byte_byte.f x1) fun t_15 =>
  some (t_15, (⟨0, ([] : List UInt8), 0⟩ : api_Result)))

def bytes_Equal.f (x0 : List UInt8) (x1 : List UInt8) : Option (Bool) :=
  some (x0 == x1)

def regs_Cas.j_8 (x0 : List UInt8) (x2 : List UInt8) (x_6 : Bool) : Option ((List UInt8) × api_Result) :=
  if x_6 = true then (
  Option.bind (slices_Clone_byte_byte.f x0) fun t_10 =>
  Option.bind (slices_Clone_byte_byte.f x0) fun t_18 =>
  some (t_10, (⟨2, t_18, 0⟩ : api_Result)))
  else (
  Option.bind (regs_Write.f x0 x2) fun t_27 =>
  some (t_27.1, t_27.2))
def regs_Cas.f (x0 : List UInt8) (x1 : List UInt8) (x2 : List UInt8) : Option ((List UInt8) × api_Result) :=
  if (x2.length : Int) ≤ 16 then (
  Option.bind (bytes_Equal.f x0 x1) fun t_41 =>
  regs_Cas.j_8 x0 x2 (!t_41))
  else (
  regs_Cas.j_8 x0 x2 false)

def regs_Read.f (x0 : List UInt8) : Option (api_Result) :=
  Option.bind (slices_Clone_byte_byte.f x0) fun t_3 =>
  some (⟨0, t_3, 0⟩ : api_Result)

def hocketlaw4_awake.f : Option (Unit) :=
  Option.bind (regs_Write.f ([(97 : UInt8)] : List UInt8) ([(98 : UInt8)] : List UInt8)) fun t_21 =>
  Option.bind (regs_Cas.f t_21.1 ([(97 : UInt8)] : List UInt8) ([(99 : UInt8)] : List UInt8)) fun t_56 =>
  Option.bind (mk 140737488355328 17 (0 : UInt8)) fun t_71 =>
  Option.bind (regs_Write.f t_21.1 t_71) fun t_77 =>
  if t_21.1 = ([98] : List UInt8) then (
  if t_21.2.Err = 0 then (
  if t_56.1 = ([98] : List UInt8) then (
  if t_56.2.Err = 2 then (
  if t_56.2.Val = ([98] : List UInt8) then (
  if t_77.2.Err = 1 then (
  Option.bind (regs_Read.f t_21.1) fun t_99 =>
  if t_99.Val = ([98] : List UInt8) then (
  some ())
  else (
  none))
  else (
  none))
  else (
  none))
  else (
  none))
  else (
  none))
  else (
  none))
  else (
  none)

def hocketlaw4_RegsForms.j_79 (t_34 : (List UInt8) × api_Result) (t_8 : An_s_old_v_want_e_val) (x_77 : Bool) : Option (Unit) :=
  if x_77 = true then (
  none)
  else (
  if t_34.1 = t_8.want then (
  if t_34.2.Err = t_8.e then (
  if t_34.2.Val = t_8.val then (
  if t_34.2.N = 0 then (
  Option.bind (hocketlaw4_awake.f) fun t_86 =>
  some ())
  else (
  none))
  else (
  none))
  else (
  none))
  else (
  none))
def hocketlaw4_RegsForms.f (x0 : Int) : Option (Unit) :=
  Option.bind (rem (band .i64 x0 255) (([(⟨([] : List UInt8), ([] : List UInt8), ([] : List UInt8), ([] : List UInt8), 0, ([] : List UInt8)⟩ : An_s_old_v_want_e_val), (⟨([97] : List UInt8), ([97] : List UInt8), ([98] : List UInt8), ([98] : List UInt8), 0, ([] : List UInt8)⟩ : An_s_old_v_want_e_val), (⟨([97] : List UInt8), ([] : List UInt8), ([98] : List UInt8), ([97] : List UInt8), 2, ([97] : List UInt8)⟩ : An_s_old_v_want_e_val), (⟨([] : List UInt8), ([97] : List UInt8), ([98] : List UInt8), ([] : List UInt8), 2, ([] : List UInt8)⟩ : An_s_old_v_want_e_val), (⟨([97] : List UInt8), ([97] : List UInt8), ([48, 49, 50, 51, 52, 53, 54, 55, 56, 57, 48, 49, 50, 51, 52, 53, 54] : List UInt8), ([97] : List UInt8), 1, ([] : List UInt8)⟩ : An_s_old_v_want_e_val), (⟨([97] : List UInt8), ([120] : List UInt8), ([48, 49, 50, 51, 52, 53, 54, 55, 56, 57, 48, 49, 50, 51, 52, 53, 54] : List UInt8), ([97] : List UInt8), 1, ([] : List UInt8)⟩ : An_s_old_v_want_e_val), (⟨([97] : List UInt8), ([97] : List UInt8), ([48, 49, 50, 51, 52, 53, 54, 55, 56, 57, 48, 49, 50, 51, 52, 53] : List UInt8), ([48, 49, 50, 51, 52, 53, 54, 55, 56, 57, 48, 49, 50, 51, 52, 53] : List UInt8), 0, ([] : List UInt8)⟩ : An_s_old_v_want_e_val), (⟨([97] : List UInt8), ([97] : List UInt8), ([] : List UInt8), ([] : List UInt8), 0, ([] : List UInt8)⟩ : An_s_old_v_want_e_val), (⟨([97] : List UInt8), ([97, 98] : List UInt8), ([98] : List UInt8), ([97] : List UInt8), 2, ([97] : List UInt8)⟩ : An_s_old_v_want_e_val), (⟨([0] : List UInt8), ([0] : List UInt8), ([255] : List UInt8), ([255] : List UInt8), 0, ([] : List UInt8)⟩ : An_s_old_v_want_e_val)] : List An_s_old_v_want_e_val).length : Int)) fun t_7 =>
  Option.bind (ix ([(⟨([] : List UInt8), ([] : List UInt8), ([] : List UInt8), ([] : List UInt8), 0, ([] : List UInt8)⟩ : An_s_old_v_want_e_val), (⟨([97] : List UInt8), ([97] : List UInt8), ([98] : List UInt8), ([98] : List UInt8), 0, ([] : List UInt8)⟩ : An_s_old_v_want_e_val), (⟨([97] : List UInt8), ([] : List UInt8), ([98] : List UInt8), ([97] : List UInt8), 2, ([97] : List UInt8)⟩ : An_s_old_v_want_e_val), (⟨([] : List UInt8), ([97] : List UInt8), ([98] : List UInt8), ([] : List UInt8), 2, ([] : List UInt8)⟩ : An_s_old_v_want_e_val), (⟨([97] : List UInt8), ([97] : List UInt8), ([48, 49, 50, 51, 52, 53, 54, 55, 56, 57, 48, 49, 50, 51, 52, 53, 54] : List UInt8), ([97] : List UInt8), 1, ([] : List UInt8)⟩ : An_s_old_v_want_e_val), (⟨([97] : List UInt8), ([120] : List UInt8), ([48, 49, 50, 51, 52, 53, 54, 55, 56, 57, 48, 49, 50, 51, 52, 53, 54] : List UInt8), ([97] : List UInt8), 1, ([] : List UInt8)⟩ : An_s_old_v_want_e_val), (⟨([97] : List UInt8), ([97] : List UInt8), ([48, 49, 50, 51, 52, 53, 54, 55, 56, 57, 48, 49, 50, 51, 52, 53] : List UInt8), ([48, 49, 50, 51, 52, 53, 54, 55, 56, 57, 48, 49, 50, 51, 52, 53] : List UInt8), 0, ([] : List UInt8)⟩ : An_s_old_v_want_e_val), (⟨([97] : List UInt8), ([97] : List UInt8), ([] : List UInt8), ([] : List UInt8), 0, ([] : List UInt8)⟩ : An_s_old_v_want_e_val), (⟨([97] : List UInt8), ([97, 98] : List UInt8), ([98] : List UInt8), ([97] : List UInt8), 2, ([97] : List UInt8)⟩ : An_s_old_v_want_e_val), (⟨([0] : List UInt8), ([0] : List UInt8), ([255] : List UInt8), ([255] : List UInt8), 0, ([] : List UInt8)⟩ : An_s_old_v_want_e_val)] : List An_s_old_v_want_e_val) t_7) fun t_8 =>
  Option.bind (must (t_8.s.length ≤ 9223372036854775807)) fun u_16 =>
  Option.bind (must (t_8.old.length ≤ 9223372036854775807)) fun u_22 =>
  Option.bind (must (t_8.v.length ≤ 9223372036854775807)) fun u_28 =>
  Option.bind (regs_Cas.f t_8.s t_8.old t_8.v) fun t_34 =>
  Option.bind (regs_Write.f t_8.s t_8.v) fun t_59 =>
  if (t_8.v.length : Int) > 16 then (
  if t_59.2.Err = 1 then (
  if t_59.1 = t_8.s then (
  if (t_8.v.length : Int) ≤ 16 then (
  if t_59.2.Err = 0 then (
  if t_59.1 = t_8.v then (
  hocketlaw4_RegsForms.j_79 t_34 t_8 ((t_59.2.Val.length : Int) != 0))
  else (
  hocketlaw4_RegsForms.j_79 t_34 t_8 true))
  else (
  hocketlaw4_RegsForms.j_79 t_34 t_8 true))
  else (
  hocketlaw4_RegsForms.j_79 t_34 t_8 false))
  else (
  hocketlaw4_RegsForms.j_79 t_34 t_8 true))
  else (
  hocketlaw4_RegsForms.j_79 t_34 t_8 true))
  else (
  if (t_8.v.length : Int) ≤ 16 then (
  if t_59.2.Err = 0 then (
  if t_59.1 = t_8.v then (
  hocketlaw4_RegsForms.j_79 t_34 t_8 ((t_59.2.Val.length : Int) != 0))
  else (
  hocketlaw4_RegsForms.j_79 t_34 t_8 true))
  else (
  hocketlaw4_RegsForms.j_79 t_34 t_8 true))
  else (
  hocketlaw4_RegsForms.j_79 t_34 t_8 false))

def hocketref4_own.f (x0 : List UInt8) : Option ((List UInt8)) :=
  Option.bind (app 140737488355328 ([] : List UInt8) x0) fun t_7 =>
  some t_7

def hocketref4_bad.f (x0 : Int) : Option (api_Result) :=
  some (⟨x0, ([] : List UInt8), 0⟩ : api_Result)

def hocketref4_Write.f (x0 : List UInt8) (x1 : List UInt8) : Option ((List UInt8) × api_Result) :=
  if (x1.length : Int) > 16 then (
  Option.bind (hocketref4_own.f x0) fun t_5 =>
  Option.bind (hocketref4_bad.f 1) fun t_13 =>
  some (t_5, t_13))
  else (
  Option.bind (hocketref4_own.f x1) fun t_22 =>
  some (t_22, (⟨0, ([] : List UInt8), 0⟩ : api_Result)))

def hocketref4_Cas.f (x0 : List UInt8) (x1 : List UInt8) (x2 : List UInt8) : Option ((List UInt8) × api_Result) :=
  if (x2.length : Int) > 16 then (
  Option.bind (hocketref4_own.f x0) fun t_5 =>
  Option.bind (hocketref4_bad.f 1) fun t_13 =>
  some (t_5, t_13))
  else (
  if x0 = x1 then (
  Option.bind (hocketref4_own.f x2) fun t_24 =>
  some (t_24, (⟨0, ([] : List UInt8), 0⟩ : api_Result)))
  else (
  Option.bind (hocketref4_own.f x0) fun t_34 =>
  Option.bind (hocketref4_own.f x0) fun t_42 =>
  some (t_34, (⟨2, t_42, 0⟩ : api_Result))))

def hocketref4_SameResult.f (x0 : api_Result) (x1 : api_Result) : Option (Bool) :=
  if x0.Err = x1.Err then (
  if x0.Val = x1.Val then (
  some (x0.N == x1.N))
  else (
  some false))
  else (
  some false)

def hocketref4_Read.f (x0 : List UInt8) : Option (api_Result) :=
  Option.bind (hocketref4_own.f x0) fun t_3 =>
  some (⟨0, t_3, 0⟩ : api_Result)

def hocketlaw4_RegsTells.j_18 (x0 : List UInt8) (x2 : List UInt8) (x_14 : List UInt8) : Option (Unit) :=
  Option.bind (regs_Write.f x0 x2) fun t_19 =>
  Option.bind (hocketref4_Write.f x0 x2) fun t_34 =>
  Option.bind (regs_Cas.f x0 x_14 x2) fun t_49 =>
  Option.bind (hocketref4_Cas.f x0 x_14 x2) fun t_64 =>
  if t_19.1 = t_34.1 then (
  Option.bind (hocketref4_SameResult.f t_19.2 t_34.2) fun t_81 =>
  if t_81 = true then (
  if t_49.1 = t_64.1 then (
  Option.bind (hocketref4_SameResult.f t_49.2 t_64.2) fun t_87 =>
  if t_87 = true then (
  Option.bind (regs_Read.f x0) fun t_92 =>
  Option.bind (hocketref4_Read.f x0) fun t_100 =>
  Option.bind (hocketref4_SameResult.f t_92 t_100) fun t_108 =>
  if t_108 = true then (
  Option.bind (hocketlaw4_awake.f) fun t_113 =>
  some ())
  else (
  none))
  else (
  none))
  else (
  none))
  else (
  none))
  else (
  none)
def hocketlaw4_RegsTells.j_6 (x3 : Bool) (x0 : List UInt8) (x2 : List UInt8) (x1 : List UInt8) (x_4 : Bool) : Option (Unit) :=
  if x_4 = true then (
  Option.bind (hocketlaw4_awake.f) fun t_8 =>
  some ())
  else (
  if x3 = true then (
  Option.bind (app 140737488355328 ([] : List UInt8) x0) fun t_124 =>
  hocketlaw4_RegsTells.j_18 x0 x2 t_124)
  else (
  hocketlaw4_RegsTells.j_18 x0 x2 x1))
def hocketlaw4_RegsTells.f (x0 : List UInt8) (x1 : List UInt8) (x2 : List UInt8) (x3 : Bool) : Option (Unit) :=
  if (x0.length : Int) > 60 then (
  hocketlaw4_RegsTells.j_6 x3 x0 x2 x1 true)
  else (
  if (x1.length : Int) > 60 then (
  hocketlaw4_RegsTells.j_6 x3 x0 x2 x1 true)
  else (
  hocketlaw4_RegsTells.j_6 x3 x0 x2 x1 (decide ((x2.length : Int) > 60))))

def hocketref4_rows.j_9 (K : Nat) (x_3 : List (List UInt8)) : Option ((List (List UInt8))) :=
  some x_3
def hocketref4_rows.b_17 (K : Nat) (x0 : List (List UInt8)) (ex_17 : (List (List UInt8)) → Option ((List (List UInt8)))) (again_17 : (List (List UInt8)) × Int → Option ((List (List UInt8)))) (x_11 : List (List UInt8)) (x_16 : Int) : Option ((List (List UInt8))) :=
  if x_16 < (x0.length : Int) then (
  Option.bind (ix x0 x_16) fun t_22 =>
  Option.bind (hocketref4_own.f t_22) fun t_29 =>
  Option.bind (app 5864062014805 x_11 ([t_29] : List (List UInt8))) fun t_44 =>
  again_17 (t_44, w64 (x_16 + 1)))
  else (
  ex_17 x_11)
def hocketref4_rows.l_17 (K : Nat) (x0 : List (List UInt8)) (ex_17 : (List (List UInt8)) → Option ((List (List UInt8)))) : Nat → (List (List UInt8)) × Int → Option ((List (List UInt8))) :=
  iter fun again v => hocketref4_rows.b_17 K x0 ex_17 again v.1 v.2
def hocketref4_rows.f (K : Nat) (x0 : List (List UInt8)) : Option ((List (List UInt8))) :=
  hocketref4_rows.l_17 K x0 (fun v => hocketref4_rows.j_9 K v) K (([] : List (List UInt8)), 0)

def hocketref4_Push.f (K : Nat) (x0 : List (List UInt8)) (x1 : List UInt8) : Option ((List (List UInt8)) × api_Result) :=
  if (x1.length : Int) > 16 then (
  Option.bind (hocketref4_rows.f K x0) fun t_5 =>
  Option.bind (hocketref4_bad.f 1) fun t_13 =>
  some (t_5, t_13))
  else (
  if (x0.length : Int) ≥ 8 then (
  Option.bind (hocketref4_rows.f K x0) fun t_24 =>
  Option.bind (hocketref4_bad.f 3) fun t_32 =>
  some (t_24, t_32))
  else (
  Option.bind (hocketref4_rows.f K x0) fun t_41 =>
  Option.bind (hocketref4_own.f x1) fun t_49 =>
  Option.bind (app 5864062014805 t_41 ([t_49] : List (List UInt8))) fun t_64 =>
  some (t_64, (⟨0, ([] : List UInt8), w64 ((x0.length : Int) + 1)⟩ : api_Result))))

def pack_held.f (x0 : Int) : Option (Int) :=
  some (mn (mx x0 0) 4611686018427387904)

def hocketref1_Num.j_22 (K : Nat) (x_15 : Int) (x_16 : List UInt8) : Option ((List UInt8)) :=
  Option.bind (app 140737488355328 x_16 ([toU8 x_15] : List UInt8)) fun t_29 =>
  some t_29
def hocketref1_Num.b_42 (K : Nat) (ex_42 : Int × (List UInt8) → Option ((List UInt8))) (again_42 : Int × (List UInt8) → Option ((List UInt8))) (x_36 : Int) (x_37 : List UInt8) : Option ((List UInt8)) :=
  if x_36 > 127 then (
  Option.bind (app 140737488355328 x_37 ([toU8 (bor .i64 (band .i64 x_36 127) 128)] : List UInt8)) fun t_52 =>
  again_42 (shr .i64 x_36 7, t_52))
  else (
  ex_42 (x_36, x_37))
def hocketref1_Num.l_42 (K : Nat) (ex_42 : Int × (List UInt8) → Option ((List UInt8))) : Nat → Int × (List UInt8) → Option ((List UInt8)) :=
  iter fun again v => hocketref1_Num.b_42 K ex_42 again v.1 v.2
def hocketref1_Num.f (K : Nat) (x0 : List UInt8) (x1 : Int) : Option ((List UInt8)) :=
  Option.bind (app 140737488355328 ([] : List UInt8) x0) fun t_7 =>
  hocketref1_Num.l_42 K (fun v => hocketref1_Num.j_22 K v.1 v.2) K (mn (mx x1 0) 4611686018427387904, t_7)

def hocketref1_Bytes.f (K : Nat) (x0 : List UInt8) (x1 : List UInt8) : Option ((List UInt8)) :=
  Option.bind (hocketref1_Num.f K x0 (x1.length : Int)) fun t_1 =>
  Option.bind (app 140737488355328 t_1 x1) fun t_9 =>
  some t_9
end Go.Gp
