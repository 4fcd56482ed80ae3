/- The functions that the law reaches, told plainly. -/
import Derived.Test.YtbjefkmbpbdhbaaLa
namespace Go.Gp
set_option linter.unusedVariables false
structure api_Result where
  Err : Int
  Val : List UInt8
  N : Int
  deriving DecidableEq
structure An_s_old_v_want_e_val where
  s : List UInt8
  old : List UInt8
  v : List UInt8
  want : List UInt8
  e : Int
  val : List UInt8
  deriving DecidableEq
structure An_n_b_ok where
  n : Int
  b : List UInt8
  ok : Bool
  deriving DecidableEq
structure pack_Reader where
  b : List UInt8
  bad : Bool
  deriving DecidableEq
structure hocketref1_Reader where
  B : List UInt8
  Bad : Bool
  deriving DecidableEq
def ok_api_Result (x : api_Result) : Prop := i64ok x.Err ∧ (x.Val.length ≤ 140737488351232 ∧ ∀ z ∈ x.Val, True) ∧ i64ok x.N


def ok_pack_Reader (x : pack_Reader) : Prop := (x.b.length ≤ 140737488351232 ∧ ∀ z ∈ x.b, True) ∧ True
def ok_hocketref1_Reader (x : hocketref1_Reader) : Prop := (x.B.length ≤ 140737488351232 ∧ ∀ z ∈ x.B, True) ∧ True
def slices_Clone_sbyte_byte.f (x0 : List UInt8) : Option (List UInt8) :=
  app 140737488355328 ([] : List UInt8) x0

def regs_Write.f (x0 : List UInt8) (x1 : List UInt8) : Option ((List UInt8) × api_Result) :=
  if (x1.length : Int) > 16 then (
  Option.bind (slices_Clone_sbyte_byte.f x0) fun t_5 =>
  some (t_5, (⟨1, ([] : List UInt8), 0⟩ : api_Result)))
  else (
  Option.bind (slices_Clone_sbyte_byte.f x1) fun t_15 =>
  some (t_15, (⟨0, ([] : List UInt8), 0⟩ : api_Result)))

def bytes_Equal.f (x0 : List UInt8) (x1 : List UInt8) : Option (Bool) :=
  some (x0 == x1)

def regs_Cas.J1 (x0 : List UInt8) (x2 : List UInt8) (x_6 : Bool) : Option ((List UInt8) × api_Result) :=
  if x_6 = true then (
  Option.bind (slices_Clone_sbyte_byte.f x0) fun t_10 =>
  Option.bind (slices_Clone_sbyte_byte.f x0) fun t_18 =>
  some (t_10, (⟨2, t_18, 0⟩ : api_Result)))
  else (
  Option.bind (regs_Write.f x0 x2) fun t_27 =>
  some (t_27.1, t_27.2))
def regs_Cas.f (x0 : List UInt8) (x1 : List UInt8) (x2 : List UInt8) : Option ((List UInt8) × api_Result) :=
  if (x2.length : Int) ≤ 16 then (
  Option.bind (bytes_Equal.f x0 x1) fun t_41 =>
  regs_Cas.J1 x0 x2 (!t_41))
  else (
  regs_Cas.J1 x0 x2 false)

def regs_Read.f (x0 : List UInt8) : Option (api_Result) :=
  Option.bind (slices_Clone_sbyte_byte.f x0) fun t_3 =>
  some (⟨0, t_3, 0⟩ : api_Result)

def hocketlaw4_awake.f : Option (Unit) :=
  Option.bind (regs_Write.f ([(97 : UInt8)] : List UInt8) ([(98 : UInt8)] : List UInt8)) fun t_21 =>
  Option.bind (regs_Cas.f t_21.1 ([(97 : UInt8)] : List UInt8) ([(99 : UInt8)] : List UInt8)) fun t_56 =>
  Option.bind (mk 140737488355328 17 (0 : UInt8)) fun t_71 =>
  Option.bind (regs_Write.f t_21.1 t_71) fun t_77 =>
  if t_21.1 = ([98] : List UInt8) then (
  if t_21.2.Err = 0 then (
  if t_56.1 = ([98] : List UInt8) then (
  if t_56.2.Err = 2 then (
  if t_56.2.Val = ([98] : List UInt8) then (
  if t_77.2.Err = 1 then (
  Option.bind (regs_Read.f t_21.1) fun t_99 =>
  if t_99.Val = ([98] : List UInt8) then (
  some ())
  else (
  none))
  else (
  none))
  else (
  none))
  else (
  none))
  else (
  none))
  else (
  none))
  else (
  none)

def hocketlaw4_RegsForms.J1 (t_34 : (List UInt8) × api_Result) (t_8 : An_s_old_v_want_e_val) (x_77 : Bool) : Option (Unit) :=
  if x_77 = true then (
  none)
  else (
  if t_34.1 = t_8.want then (
  if t_34.2.Err = t_8.e then (
  if t_34.2.Val = t_8.val then (
  if t_34.2.N = 0 then (
  Option.bind (hocketlaw4_awake.f) fun t_86 =>
  some ())
  else (
  none))
  else (
  none))
  else (
  none))
  else (
  none))
def hocketlaw4_RegsForms.f (x0 : Int) : Option (Unit) :=
  Option.bind (rem (band .i64 x0 255) (([(⟨([] : List UInt8), ([] : List UInt8), ([] : List UInt8), ([] : List UInt8), 0, ([] : List UInt8)⟩ : An_s_old_v_want_e_val), (⟨([97] : List UInt8), ([97] : List UInt8), ([98] : List UInt8), ([98] : List UInt8), 0, ([] : List UInt8)⟩ : An_s_old_v_want_e_val), (⟨([97] : List UInt8), ([] : List UInt8), ([98] : List UInt8), ([97] : List UInt8), 2, ([97] : List UInt8)⟩ : An_s_old_v_want_e_val), (⟨([] : List UInt8), ([97] : List UInt8), ([98] : List UInt8), ([] : List UInt8), 2, ([] : List UInt8)⟩ : An_s_old_v_want_e_val), (⟨([97] : List UInt8), ([97] : List UInt8), ([48, 49, 50, 51, 52, 53, 54, 55, 56, 57, 48, 49, 50, 51, 52, 53, 54] : List UInt8), ([97] : List UInt8), 1, ([] : List UInt8)⟩ : An_s_old_v_want_e_val), (⟨([97] : List UInt8), ([120] : List UInt8), ([48, 49, 50, 51, 52, 53, 54, 55, 56, 57, 48, 49, 50, 51, 52, 53, 54] : List UInt8), ([97] : List UInt8), 1, ([] : List UInt8)⟩ : An_s_old_v_want_e_val), (⟨([97] : List UInt8), ([97] : List UInt8), ([48, 49, 50, 51, 52, 53, 54, 55, 56, 57, 48, 49, 50, 51, 52, 53] : List UInt8), ([48, 49, 50, 51, 52, 53, 54, 55, 56, 57, 48, 49, 50, 51, 52, 53] : List UInt8), 0, ([] : List UInt8)⟩ : An_s_old_v_want_e_val), (⟨([97] : List UInt8), ([97] : List UInt8), ([] : List UInt8), ([] : List UInt8), 0, ([] : List UInt8)⟩ : An_s_old_v_want_e_val), (⟨([97] : List UInt8), ([97, 98] : List UInt8), ([98] : List UInt8), ([97] : List UInt8), 2, ([97] : List UInt8)⟩ : An_s_old_v_want_e_val), (⟨([0] : List UInt8), ([0] : List UInt8), ([255] : List UInt8), ([255] : List UInt8), 0, ([] : List UInt8)⟩ : An_s_old_v_want_e_val)] : List An_s_old_v_want_e_val).length : Int)) fun t_7 =>
  Option.bind (ix ([(⟨([] : List UInt8), ([] : List UInt8), ([] : List UInt8), ([] : List UInt8), 0, ([] : List UInt8)⟩ : An_s_old_v_want_e_val), (⟨([97] : List UInt8), ([97] : List UInt8), ([98] : List UInt8), ([98] : List UInt8), 0, ([] : List UInt8)⟩ : An_s_old_v_want_e_val), (⟨([97] : List UInt8), ([] : List UInt8), ([98] : List UInt8), ([97] : List UInt8), 2, ([97] : List UInt8)⟩ : An_s_old_v_want_e_val), (⟨([] : List UInt8), ([97] : List UInt8), ([98] : List UInt8), ([] : List UInt8), 2, ([] : List UInt8)⟩ : An_s_old_v_want_e_val), (⟨([97] : List UInt8), ([97] : List UInt8), ([48, 49, 50, 51, 52, 53, 54, 55, 56, 57, 48, 49, 50, 51, 52, 53, 54] : List UInt8), ([97] : List UInt8), 1, ([] : List UInt8)⟩ : An_s_old_v_want_e_val), (⟨([97] : List UInt8), ([120] : List UInt8), ([48, 49, 50, 51, 52, 53, 54, 55, 56, 57, 48, 49, 50, 51, 52, 53, 54] : List UInt8), ([97] : List UInt8), 1, ([] : List UInt8)⟩ : An_s_old_v_want_e_val), (⟨([97] : List UInt8), ([97] : List UInt8), ([48, 49, 50, 51, 52, 53, 54, 55, 56, 57, 48, 49, 50, 51, 52, 53] : List UInt8), ([48, 49, 50, 51, 52, 53, 54, 55, 56, 57, 48, 49, 50, 51, 52, 53] : List UInt8), 0, ([] : List UInt8)⟩ : An_s_old_v_want_e_val), (⟨([97] : List UInt8), ([97] : List UInt8), ([] : List UInt8), ([] : List UInt8), 0, ([] : List UInt8)⟩ : An_s_old_v_want_e_val), (⟨([97] : List UInt8), ([97, 98] : List UInt8), ([98] : List UInt8), ([97] : List UInt8), 2, ([97] : List UInt8)⟩ : An_s_old_v_want_e_val), (⟨([0] : List UInt8), ([0] : List UInt8), ([255] : List UInt8), ([255] : List UInt8), 0, ([] : List UInt8)⟩ : An_s_old_v_want_e_val)] : List An_s_old_v_want_e_val) t_7) fun t_8 =>
  Option.bind (must (t_8.s.length ≤ 9223372036854775807)) fun u_16 =>
  Option.bind (must (t_8.old.length ≤ 9223372036854775807)) fun u_22 =>
  Option.bind (must (t_8.v.length ≤ 9223372036854775807)) fun u_28 =>
  Option.bind (regs_Cas.f t_8.s t_8.old t_8.v) fun t_34 =>
  Option.bind (regs_Write.f t_8.s t_8.v) fun t_59 =>
  if (t_8.v.length : Int) > 16 then (
  if t_59.2.Err = 1 then (
  if t_59.1 = t_8.s then (
  if (t_8.v.length : Int) ≤ 16 then (
  if t_59.2.Err = 0 then (
  if t_59.1 = t_8.v then (
  hocketlaw4_RegsForms.J1 t_34 t_8 ((t_59.2.Val.length : Int) != 0))
  else (
  hocketlaw4_RegsForms.J1 t_34 t_8 true))
  else (
  hocketlaw4_RegsForms.J1 t_34 t_8 true))
  else (
  hocketlaw4_RegsForms.J1 t_34 t_8 false))
  else (
  hocketlaw4_RegsForms.J1 t_34 t_8 true))
  else (
  hocketlaw4_RegsForms.J1 t_34 t_8 true))
  else (
  if (t_8.v.length : Int) ≤ 16 then (
  if t_59.2.Err = 0 then (
  if t_59.1 = t_8.v then (
  hocketlaw4_RegsForms.J1 t_34 t_8 ((t_59.2.Val.length : Int) != 0))
  else (
  hocketlaw4_RegsForms.J1 t_34 t_8 true))
  else (
  hocketlaw4_RegsForms.J1 t_34 t_8 true))
  else (
  hocketlaw4_RegsForms.J1 t_34 t_8 false))

def hocketref4_own.f (x0 : List UInt8) : Option ((List UInt8)) :=
  Option.bind (app 140737488355328 ([] : List UInt8) x0) fun t_7 =>
  some t_7

def hocketref4_bad.f (x0 : Int) : Option (api_Result) :=
  some (⟨x0, ([] : List UInt8), 0⟩ : api_Result)

def hocketref4_Write.f (x0 : List UInt8) (x1 : List UInt8) : Option ((List UInt8) × api_Result) :=
  if (x1.length : Int) > 16 then (
  Option.bind (hocketref4_own.f x0) fun t_5 =>
  Option.bind (hocketref4_bad.f 1) fun t_13 =>
  some (t_5, t_13))
  else (
  Option.bind (hocketref4_own.f x1) fun t_22 =>
  some (t_22, (⟨0, ([] : List UInt8), 0⟩ : api_Result)))

def hocketref4_Cas.f (x0 : List UInt8) (x1 : List UInt8) (x2 : List UInt8) : Option ((List UInt8) × api_Result) :=
  if (x2.length : Int) > 16 then (
  Option.bind (hocketref4_own.f x0) fun t_5 =>
  Option.bind (hocketref4_bad.f 1) fun t_13 =>
  some (t_5, t_13))
  else (
  if x0 = x1 then (
  Option.bind (hocketref4_own.f x2) fun t_24 =>
  some (t_24, (⟨0, ([] : List UInt8), 0⟩ : api_Result)))
  else (
  Option.bind (hocketref4_own.f x0) fun t_34 =>
  Option.bind (hocketref4_own.f x0) fun t_42 =>
  some (t_34, (⟨2, t_42, 0⟩ : api_Result))))

def hocketref4_SameResult.f (x0 : api_Result) (x1 : api_Result) : Option (Bool) :=
  if x0.Err = x1.Err then (
  if x0.Val = x1.Val then (
  some (x0.N == x1.N))
  else (
  some false))
  else (
  some false)

def hocketref4_Read.f (x0 : List UInt8) : Option (api_Result) :=
  Option.bind (hocketref4_own.f x0) fun t_3 =>
  some (⟨0, t_3, 0⟩ : api_Result)

def hocketlaw4_RegsTells.J2 (x0 : List UInt8) (x2 : List UInt8) (x_14 : List UInt8) : Option (Unit) :=
  Option.bind (regs_Write.f x0 x2) fun t_19 =>
  Option.bind (hocketref4_Write.f x0 x2) fun t_34 =>
  Option.bind (regs_Cas.f x0 x_14 x2) fun t_49 =>
  Option.bind (hocketref4_Cas.f x0 x_14 x2) fun t_64 =>
  if t_19.1 = t_34.1 then (
  Option.bind (hocketref4_SameResult.f t_19.2 t_34.2) fun t_81 =>
  if t_81 = true then (
  if t_49.1 = t_64.1 then (
  Option.bind (hocketref4_SameResult.f t_49.2 t_64.2) fun t_87 =>
  if t_87 = true then (
  Option.bind (regs_Read.f x0) fun t_92 =>
  Option.bind (hocketref4_Read.f x0) fun t_100 =>
  Option.bind (hocketref4_SameResult.f t_92 t_100) fun t_108 =>
  if t_108 = true then (
  Option.bind (hocketlaw4_awake.f) fun t_113 =>
  some ())
  else (
  none))
  else (
  none))
  else (
  none))
  else (
  none))
  else (
  none)
def hocketlaw4_RegsTells.J1 (x3 : Bool) (x0 : List UInt8) (x2 : List UInt8) (x1 : List UInt8) (x_4 : Bool) : Option (Unit) :=
  if x_4 = true then (
  Option.bind (hocketlaw4_awake.f) fun t_8 =>
  some ())
  else (
  if x3 = true then (
  Option.bind (app 140737488355328 ([] : List UInt8) x0) fun t_124 =>
  hocketlaw4_RegsTells.J2 x0 x2 t_124)
  else (
  hocketlaw4_RegsTells.J2 x0 x2 x1))
def hocketlaw4_RegsTells.f (x0 : List UInt8) (x1 : List UInt8) (x2 : List UInt8) (x3 : Bool) : Option (Unit) :=
  if (x0.length : Int) > 60 then (
  hocketlaw4_RegsTells.J1 x3 x0 x2 x1 true)
  else (
  if (x1.length : Int) > 60 then (
  hocketlaw4_RegsTells.J1 x3 x0 x2 x1 true)
  else (
  hocketlaw4_RegsTells.J1 x3 x0 x2 x1 (decide ((x2.length : Int) > 60))))

def hocketlaw4_RegsOnce.J4 (K : Nat) (t_3 : List UInt8) : Option (Unit) :=
  if t_3 = t_3 then (
  Option.bind (regs_Read.f t_3) fun t_77 =>
  if t_77.Val = t_3 then (
  Option.bind (hocketlaw4_awake.f) fun t_86 =>
  some ())
  else (
  none))
  else (
  none)
def hocketlaw4_RegsOnce.B1 (K : Nat) (t_12 : (List UInt8) × api_Result) (ex_97 : Unit → Option (Unit)) (again_97 : (List UInt8) × Int → Option (Unit)) (x_91 : List UInt8) (x_96 : Int) : Option (Unit) :=
  if x_96 < (t_12.1.length : Int) then (
  Option.bind (ix x_91 x_96) fun t_101 =>
  Option.bind (ix x_91 x_96) fun t_106 =>
  again_97 ((x_91.set (x_96).toNat (toU8 ((t_101.toNat : Int) + ((1 : UInt8).toNat : Int)))), w64 (x_96 + 1)))
  else (
  ex_97 ())
def hocketlaw4_RegsOnce.L1 (K : Nat) (t_12 : (List UInt8) × api_Result) (ex_97 : Unit → Option (Unit)) : Nat → (List UInt8) × Int → Option (Unit) :=
  iter fun again v => hocketlaw4_RegsOnce.B1 K t_12 ex_97 again v.1 v.2
def hocketlaw4_RegsOnce.J3 (K : Nat) (t_12 : (List UInt8) × api_Result) (t_3 : List UInt8) : Option (Unit) :=
  hocketlaw4_RegsOnce.L1 K t_12 (fun v => hocketlaw4_RegsOnce.J4 K t_3) K (t_12.1, 0)
def hocketlaw4_RegsOnce.B2 (K : Nat) (t_56 : api_Result) (ex_120 : Unit → Option (Unit)) (again_120 : Int × (List UInt8) → Option (Unit)) (x_114 : Int) (x_115 : List UInt8) : Option (Unit) :=
  if x_114 < (t_56.Val.length : Int) then (
  Option.bind (ix x_115 x_114) fun t_124 =>
  Option.bind (ix x_115 x_114) fun t_129 =>
  again_120 (w64 (x_114 + 1), (x_115.set (x_114).toNat (toU8 ((t_124.toNat : Int) + ((1 : UInt8).toNat : Int))))))
  else (
  ex_120 ())
def hocketlaw4_RegsOnce.L2 (K : Nat) (t_56 : api_Result) (ex_120 : Unit → Option (Unit)) : Nat → Int × (List UInt8) → Option (Unit) :=
  iter fun again v => hocketlaw4_RegsOnce.B2 K t_56 ex_120 again v.1 v.2
def hocketlaw4_RegsOnce.J2 (K : Nat) (t_3 : List UInt8) (t_12 : (List UInt8) × api_Result) (x_52 : Bool) : Option (Unit) :=
  if x_52 = true then (
  none)
  else (
  Option.bind (regs_Read.f t_3) fun t_56 =>
  hocketlaw4_RegsOnce.L2 K t_56 (fun v => hocketlaw4_RegsOnce.J3 K t_12 t_3) K (0, t_56.Val))
def hocketlaw4_RegsOnce.J1 (K : Nat) (t_27 : (List UInt8) × api_Result) (t_6 : List UInt8) (t_3 : List UInt8) (t_9 : List UInt8) (t_12 : (List UInt8) × api_Result) (x_45 : Bool) : Option (Unit) :=
  if x_45 = true then (
  none)
  else (
  if (t_27.2.Err == 0) = (t_6 == t_3) then (
  if t_27.2.Err = 0 then (
  if t_27.1 = t_9 then (
  hocketlaw4_RegsOnce.J2 K t_3 t_12 false)
  else (
  hocketlaw4_RegsOnce.J2 K t_3 t_12 true))
  else (
  if t_27.1 = t_6 then (
  hocketlaw4_RegsOnce.J2 K t_3 t_12 (!(t_27.2.Val == t_6)))
  else (
  hocketlaw4_RegsOnce.J2 K t_3 t_12 true)))
  else (
  hocketlaw4_RegsOnce.J2 K t_3 t_12 true))
def hocketlaw4_RegsOnce.f (K : Nat) (x0 : List UInt8) (x1 : List UInt8) (x2 : List UInt8) : Option (Unit) :=
  Option.bind (cut x0 0 (mn (x0.length : Int) 16)) fun t_3 =>
  Option.bind (cut x1 0 (mn (x1.length : Int) 16)) fun t_6 =>
  Option.bind (cut x2 0 (mn (x2.length : Int) 16)) fun t_9 =>
  Option.bind (regs_Cas.f t_3 t_3 t_6) fun t_12 =>
  Option.bind (regs_Cas.f t_12.1 t_3 t_9) fun t_27 =>
  if t_12.2.Err = 0 then (
  hocketlaw4_RegsOnce.J1 K t_27 t_6 t_3 t_9 t_12 (!(t_12.1 == t_6)))
  else (
  hocketlaw4_RegsOnce.J1 K t_27 t_6 t_3 t_9 t_12 true)



def fifo_Still.J1 (K : Nat) (x_3 : List (List UInt8)) : Option ((List (List UInt8))) :=
  some x_3
def fifo_Still.B1 (K : Nat) (x0 : List (List UInt8)) (ex_20 : (List (List UInt8)) → Option ((List (List UInt8)))) (again_20 : (List (List UInt8)) × Int → Option ((List (List UInt8)))) (x_14 : List (List UInt8)) (x_19 : Int) : Option ((List (List UInt8))) :=
  if x_19 < (x0.length : Int) then (
  Option.bind (ix x0 x_19) fun t_25 =>
  Option.bind (slices_Clone_sbyte_byte.f t_25) fun t_32 =>
  Option.bind (app 5864062014805 x_14 ([t_32] : List (List UInt8))) fun t_47 =>
  again_20 (t_47, w64 (x_19 + 1)))
  else (
  ex_20 x_14)
def fifo_Still.L1 (K : Nat) (x0 : List (List UInt8)) (ex_20 : (List (List UInt8)) → Option ((List (List UInt8)))) : Nat → (List (List UInt8)) × Int → Option ((List (List UInt8))) :=
  iter fun again v => fifo_Still.B1 K x0 ex_20 again v.1 v.2
def fifo_Still.f (K : Nat) (x0 : List (List UInt8)) : Option ((List (List UInt8))) :=
  fifo_Still.L1 K x0 (fun v => fifo_Still.J1 K v) K (([] : List (List UInt8)), 0)

def fifo_Push.f (K : Nat) (x0 : List (List UInt8)) (x1 : List UInt8) : Option ((List (List UInt8)) × api_Result) :=
  Option.bind (fifo_Still.f K x0) fun t_3 =>
  if (x1.length : Int) > 16 then (
  some (t_3, (⟨1, ([] : List UInt8), 0⟩ : api_Result)))
  else (
  if (t_3.length : Int) ≥ 8 then (
  some (t_3, (⟨3, ([] : List UInt8), 0⟩ : api_Result)))
  else (
  Option.bind (slices_Clone_sbyte_byte.f x1) fun t_18 =>
  Option.bind (app 5864062014805 t_3 ([t_18] : List (List UInt8))) fun t_33 =>
  some (t_33, (⟨0, ([] : List UInt8), w64 ((t_3.length : Int) + 1)⟩ : api_Result))))

def hocketref4_SameRows.J1 (K : Nat) : Option (Bool) :=
  some true
def hocketref4_SameRows.B1 (K : Nat) (x0 : List (List UInt8)) (x1 : List (List UInt8)) (ex_9 : Unit → Option (Bool)) (again_9 : Int → Option (Bool)) (x_8 : Int) : Option (Bool) :=
  if x_8 < (x0.length : Int) then (
  Option.bind (ix x0 x_8) fun t_16 =>
  Option.bind (ix x1 x_8) fun t_23 =>
  if t_16 = t_23 then (
  again_9 (w64 (x_8 + 1)))
  else (
  some false))
  else (
  ex_9 ())
def hocketref4_SameRows.L1 (K : Nat) (x0 : List (List UInt8)) (x1 : List (List UInt8)) (ex_9 : Unit → Option (Bool)) : Nat → Int → Option (Bool) :=
  iter fun again v => hocketref4_SameRows.B1 K x0 x1 ex_9 again v
def hocketref4_SameRows.f (K : Nat) (x0 : List (List UInt8)) (x1 : List (List UInt8)) : Option (Bool) :=
  if (x0.length : Int) = (x1.length : Int) then (
  hocketref4_SameRows.L1 K x0 x1 (fun v => hocketref4_SameRows.J1 K) K 0)
  else (
  some false)

def fifo_Pop.f (K : Nat) (x0 : List (List UInt8)) : Option ((List (List UInt8)) × api_Result) :=
  Option.bind (fifo_Still.f K x0) fun t_3 =>
  if (t_3.length : Int) = 0 then (
  some (t_3, (⟨4, ([] : List UInt8), 0⟩ : api_Result)))
  else (
  Option.bind (cut t_3 1 (t_3.length : Int)) fun t_18 =>
  Option.bind (ix t_3 0) fun t_21 =>
  some (t_18, (⟨0, t_21, 0⟩ : api_Result)))

def hocketlaw5_awake.f (K : Nat) : Option (Unit) :=
  Option.bind (fifo_Push.f K ([] : List (List UInt8)) ([(97 : UInt8)] : List UInt8)) fun t_11 =>
  Option.bind (fifo_Push.f K t_11.1 ([(98 : UInt8)] : List UInt8)) fun t_36 =>
  Option.bind (fifo_Pop.f K t_36.1) fun t_51 =>
  Option.bind (fifo_Pop.f K ([] : List (List UInt8))) fun t_62 =>
  if t_11.2.N = 1 then (
  if t_36.2.N = 2 then (
  if (t_36.1.length : Int) = 2 then (
  if (t_51.1.length : Int) = 1 then (
  if t_51.2.Val = ([97] : List UInt8) then (
  if t_62.2.Err = 4 then (
  some ())
  else (
  none))
  else (
  none))
  else (
  none))
  else (
  none))
  else (
  none))
  else (
  none)

def hocketlaw5_FifoForms.J5 (K : Nat) (x_50 : List (List UInt8)) : Option (Unit) :=
  if (x_50.length : Int) = 0 then (
  Option.bind (hocketlaw5_awake.f K) fun t_57 =>
  some ())
  else (
  none)
def hocketlaw5_FifoForms.J6 (K : Nat) (again_66 : (List (List UInt8)) × Int → Option (Unit)) (t_71 : (List (List UInt8)) × api_Result) (x_65 : Int) (x_85 : Bool) : Option (Unit) :=
  if x_85 = true then (
  none)
  else (
  again_66 (t_71.1, w64 (x_65 + 1)))
def hocketlaw5_FifoForms.B1 (K : Nat) (x0 : Int) (ex_66 : (List (List UInt8)) → Option (Unit)) (again_66 : (List (List UInt8)) × Int → Option (Unit)) (x_62 : List (List UInt8)) (x_65 : Int) : Option (Unit) :=
  if x_65 < (mn (band .i64 x0 15) 8) then (
  Option.bind (fifo_Pop.f K x_62) fun t_71 =>
  if (t_71.2.Val.length : Int) = 1 then (
  Option.bind (ix t_71.2.Val 0) fun t_90 =>
  if (t_90.toNat : Int) = x_65 then (
  hocketlaw5_FifoForms.J6 K again_66 t_71 x_65 (t_71.2.N != 0))
  else (
  hocketlaw5_FifoForms.J6 K again_66 t_71 x_65 true))
  else (
  hocketlaw5_FifoForms.J6 K again_66 t_71 x_65 true))
  else (
  ex_66 x_62)
def hocketlaw5_FifoForms.L1 (K : Nat) (x0 : Int) (ex_66 : (List (List UInt8)) → Option (Unit)) : Nat → (List (List UInt8)) × Int → Option (Unit) :=
  iter fun again v => hocketlaw5_FifoForms.B1 K x0 ex_66 again v.1 v.2
def hocketlaw5_FifoForms.J4 (K : Nat) (x0 : Int) (x_3 : List (List UInt8)) (x_44 : Bool) : Option (Unit) :=
  if x_44 = true then (
  none)
  else (
  hocketlaw5_FifoForms.L1 K x0 (fun v => hocketlaw5_FifoForms.J5 K v) K (x_3, 0))
def hocketlaw5_FifoForms.J3 (K : Nat) (t_16 : (List (List UInt8)) × api_Result) (x0 : Int) (x_3 : List (List UInt8)) (x_38 : Int) : Option (Unit) :=
  if t_16.2.Err = x_38 then (
  if x_38 = 0 then (
  hocketlaw5_FifoForms.J4 K x0 x_3 ((t_16.1.length : Int) != (w64 ((band .i64 x0 15) + 1))))
  else (
  Option.bind (hocketref4_SameRows.f K x_3 t_16.1) fun t_98 =>
  if t_98 = true then (
  hocketlaw5_FifoForms.J4 K x0 x_3 false)
  else (
  hocketlaw5_FifoForms.J4 K x0 x_3 true)))
  else (
  hocketlaw5_FifoForms.J4 K x0 x_3 true)
def hocketlaw5_FifoForms.J2 (K : Nat) (x1 : Int) (t_16 : (List (List UInt8)) × api_Result) (x0 : Int) (x_3 : List (List UInt8)) (x_33 : Int) : Option (Unit) :=
  if (band .i64 x1 31) > 16 then (
  hocketlaw5_FifoForms.J3 K t_16 x0 x_3 1)
  else (
  hocketlaw5_FifoForms.J3 K t_16 x0 x_3 x_33)
def hocketlaw5_FifoForms.J1 (K : Nat) (x1 : Int) (x0 : Int) (x_3 : List (List UInt8)) : Option (Unit) :=
  Option.bind (mk 140737488355328 (band .i64 x1 31) (0 : UInt8)) fun t_10 =>
  Option.bind (fifo_Push.f K x_3 t_10) fun t_16 =>
  if (band .i64 x0 15) ≥ 8 then (
  hocketlaw5_FifoForms.J2 K x1 t_16 x0 x_3 3)
  else (
  hocketlaw5_FifoForms.J2 K x1 t_16 x0 x_3 0)
def hocketlaw5_FifoForms.J7 (K : Nat) (again_112 : (List (List UInt8)) × Int → Option (Unit)) (t_123 : (List (List UInt8)) × api_Result) (x_111 : Int) (x_141 : Bool) : Option (Unit) :=
  if x_141 = true then (
  none)
  else (
  again_112 (t_123.1, w64 (x_111 + 1)))
def hocketlaw5_FifoForms.B2 (K : Nat) (x0 : Int) (ex_112 : (List (List UInt8)) → Option (Unit)) (again_112 : (List (List UInt8)) × Int → Option (Unit)) (x_106 : List (List UInt8)) (x_111 : Int) : Option (Unit) :=
  if x_111 < (band .i64 x0 15) then (
  Option.bind (fifo_Push.f K x_106 ([toU8 x_111] : List UInt8)) fun t_123 =>
  if (t_123.2.Err == 0) = (decide (x_111 < 8)) then (
  if t_123.2.Err = 0 then (
  if t_123.2.N = (w64 (x_111 + 1)) then (
  hocketlaw5_FifoForms.J7 K again_112 t_123 x_111 false)
  else (
  hocketlaw5_FifoForms.J7 K again_112 t_123 x_111 true))
  else (
  if t_123.2.Err = 3 then (
  hocketlaw5_FifoForms.J7 K again_112 t_123 x_111 (t_123.2.N != 0))
  else (
  hocketlaw5_FifoForms.J7 K again_112 t_123 x_111 true)))
  else (
  hocketlaw5_FifoForms.J7 K again_112 t_123 x_111 true))
  else (
  ex_112 x_106)
def hocketlaw5_FifoForms.L2 (K : Nat) (x0 : Int) (ex_112 : (List (List UInt8)) → Option (Unit)) : Nat → (List (List UInt8)) × Int → Option (Unit) :=
  iter fun again v => hocketlaw5_FifoForms.B2 K x0 ex_112 again v.1 v.2
def hocketlaw5_FifoForms.f (K : Nat) (x0 : Int) (x1 : Int) : Option (Unit) :=
  hocketlaw5_FifoForms.L2 K x0 (fun v => hocketlaw5_FifoForms.J1 K x1 x0 v) K (([] : List (List UInt8)), 0)

def hocketref4_rows.J1 (K : Nat) (x_3 : List (List UInt8)) : Option ((List (List UInt8))) :=
  some x_3
def hocketref4_rows.B1 (K : Nat) (x0 : List (List UInt8)) (ex_17 : (List (List UInt8)) → Option ((List (List UInt8)))) (again_17 : (List (List UInt8)) × Int → Option ((List (List UInt8)))) (x_11 : List (List UInt8)) (x_16 : Int) : Option ((List (List UInt8))) :=
  if x_16 < (x0.length : Int) then (
  Option.bind (ix x0 x_16) fun t_22 =>
  Option.bind (hocketref4_own.f t_22) fun t_29 =>
  Option.bind (app 5864062014805 x_11 ([t_29] : List (List UInt8))) fun t_44 =>
  again_17 (t_44, w64 (x_16 + 1)))
  else (
  ex_17 x_11)
def hocketref4_rows.L1 (K : Nat) (x0 : List (List UInt8)) (ex_17 : (List (List UInt8)) → Option ((List (List UInt8)))) : Nat → (List (List UInt8)) × Int → Option ((List (List UInt8))) :=
  iter fun again v => hocketref4_rows.B1 K x0 ex_17 again v.1 v.2
def hocketref4_rows.f (K : Nat) (x0 : List (List UInt8)) : Option ((List (List UInt8))) :=
  hocketref4_rows.L1 K x0 (fun v => hocketref4_rows.J1 K v) K (([] : List (List UInt8)), 0)

def hocketref4_Push.f (K : Nat) (x0 : List (List UInt8)) (x1 : List UInt8) : Option ((List (List UInt8)) × api_Result) :=
  if (x1.length : Int) > 16 then (
  Option.bind (hocketref4_rows.f K x0) fun t_5 =>
  Option.bind (hocketref4_bad.f 1) fun t_13 =>
  some (t_5, t_13))
  else (
  if (x0.length : Int) ≥ 8 then (
  Option.bind (hocketref4_rows.f K x0) fun t_24 =>
  Option.bind (hocketref4_bad.f 3) fun t_32 =>
  some (t_24, t_32))
  else (
  Option.bind (hocketref4_rows.f K x0) fun t_41 =>
  Option.bind (hocketref4_own.f x1) fun t_49 =>
  Option.bind (app 5864062014805 t_41 ([t_49] : List (List UInt8))) fun t_64 =>
  some (t_64, (⟨0, ([] : List UInt8), w64 ((x0.length : Int) + 1)⟩ : api_Result))))

def hocketref4_Pop.f (K : Nat) (x0 : List (List UInt8)) : Option ((List (List UInt8)) × api_Result) :=
  if (x0.length : Int) = 0 then (
  Option.bind (hocketref4_bad.f 4) fun t_5 =>
  some (([] : List (List UInt8)), t_5))
  else (
  Option.bind (cut x0 1 (x0.length : Int)) fun t_17 =>
  Option.bind (ix x0 0) fun t_20 =>
  Option.bind (hocketref4_rows.f K t_17) fun t_27 =>
  Option.bind (hocketref4_own.f t_20) fun t_35 =>
  some (t_27, (⟨0, t_35, 0⟩ : api_Result)))

def hocketlaw5_FifoPlays.J3 (K : Nat) : Option (Unit) :=
  Option.bind (hocketlaw5_awake.f K) fun t_19 =>
  some ()
def hocketlaw5_FifoPlays.J7 (K : Nat) (again_31 : (List (List UInt8)) × (List (List UInt8)) × Int → Option (Unit)) (x_52 : List (List UInt8)) (x_55 : List (List UInt8)) (x_30 : Int) (x_72 : Bool) : Option (Unit) :=
  if x_72 = true then (
  none)
  else (
  again_31 (x_52, x_55, w64 (x_30 + 1)))
def hocketlaw5_FifoPlays.J6 (K : Nat) (again_31 : (List (List UInt8)) × (List (List UInt8)) × Int → Option (Unit)) (x_30 : Int) (x_52 : List (List UInt8)) (x_55 : List (List UInt8)) (x_60 : api_Result) (x_63 : api_Result) : Option (Unit) :=
  Option.bind (hocketref4_SameResult.f x_60 x_63) fun t_77 =>
  if t_77 = true then (
  Option.bind (hocketref4_SameRows.f K x_52 x_55) fun t_82 =>
  hocketlaw5_FifoPlays.J7 K again_31 x_52 x_55 x_30 (!t_82))
  else (
  hocketlaw5_FifoPlays.J7 K again_31 x_52 x_55 x_30 true)
def hocketlaw5_FifoPlays.J5 (K : Nat) (x0 : List Int) (x_30 : Int) (x1 : List (List UInt8)) (x_24 : List (List UInt8)) (x_27 : List (List UInt8)) (again_31 : (List (List UInt8)) × (List (List UInt8)) × Int → Option (Unit)) (x_48 : Bool) : Option (Unit) :=
  if x_48 = true then (
  Option.bind (ix x0 x_30) fun t_87 =>
  Option.bind (rem (band .i64 (shr .i64 t_87 2) 255) (x1.length : Int)) fun t_92 =>
  Option.bind (ix x1 t_92) fun t_93 =>
  Option.bind (fifo_Push.f K x_24 t_93) fun t_100 =>
  Option.bind (hocketref4_Push.f K x_27 t_93) fun t_113 =>
  hocketlaw5_FifoPlays.J6 K again_31 x_30 t_100.1 t_113.1 t_100.2 t_113.2)
  else (
  Option.bind (fifo_Pop.f K x_24) fun t_128 =>
  Option.bind (hocketref4_Pop.f K x_27) fun t_137 =>
  hocketlaw5_FifoPlays.J6 K again_31 x_30 t_128.1 t_137.1 t_128.2 t_137.2)
def hocketlaw5_FifoPlays.J4 (K : Nat) (x0 : List Int) (x_30 : Int) (x1 : List (List UInt8)) (x_24 : List (List UInt8)) (x_27 : List (List UInt8)) (again_31 : (List (List UInt8)) × (List (List UInt8)) × Int → Option (Unit)) (ex_31 : Unit → Option (Unit)) (x_36 : Bool) : Option (Unit) :=
  if x_36 = true then (
  Option.bind (ix x0 x_30) fun t_150 =>
  if (band .i64 t_150 3) < 2 then (
  hocketlaw5_FifoPlays.J5 K x0 x_30 x1 x_24 x_27 again_31 (decide ((x1.length : Int) > 0)))
  else (
  hocketlaw5_FifoPlays.J5 K x0 x_30 x1 x_24 x_27 again_31 false))
  else (
  ex_31 ())
def hocketlaw5_FifoPlays.B1 (K : Nat) (x0 : List Int) (x1 : List (List UInt8)) (ex_31 : Unit → Option (Unit)) (again_31 : (List (List UInt8)) × (List (List UInt8)) × Int → Option (Unit)) (x_24 : List (List UInt8)) (x_27 : List (List UInt8)) (x_30 : Int) : Option (Unit) :=
  if x_30 < (x0.length : Int) then (
  hocketlaw5_FifoPlays.J4 K x0 x_30 x1 x_24 x_27 again_31 ex_31 (decide (x_30 < 40)))
  else (
  hocketlaw5_FifoPlays.J4 K x0 x_30 x1 x_24 x_27 again_31 ex_31 false)
def hocketlaw5_FifoPlays.L1 (K : Nat) (x0 : List Int) (x1 : List (List UInt8)) (ex_31 : Unit → Option (Unit)) : Nat → (List (List UInt8)) × (List (List UInt8)) × Int → Option (Unit) :=
  iter fun again v => hocketlaw5_FifoPlays.B1 K x0 x1 ex_31 again v.1 v.2.1 v.2.2
def hocketlaw5_FifoPlays.J2 (K : Nat) (x0 : List Int) (x1 : List (List UInt8)) (x_3 : List (List UInt8)) (x_6 : List (List UInt8)) : Option (Unit) :=
  hocketlaw5_FifoPlays.L1 K x0 x1 (fun v => hocketlaw5_FifoPlays.J3 K) K (x_3, x_6, 0)
def hocketlaw5_FifoPlays.B2 (K : Nat) (x1 : List (List UInt8)) (ex_159 : Unit → Option (Unit)) (again_159 : Int → Option (Unit)) (x_158 : Int) : Option (Unit) :=
  if x_158 < (x1.length : Int) then (
  Option.bind (ix x1 x_158) fun t_164 =>
  if (t_164.length : Int) > 60 then (
  Option.bind (hocketlaw5_awake.f K) fun t_172 =>
  some ())
  else (
  again_159 (w64 (x_158 + 1))))
  else (
  ex_159 ())
def hocketlaw5_FifoPlays.L2 (K : Nat) (x1 : List (List UInt8)) (ex_159 : Unit → Option (Unit)) : Nat → Int → Option (Unit) :=
  iter fun again v => hocketlaw5_FifoPlays.B2 K x1 ex_159 again v
def hocketlaw5_FifoPlays.J1 (K : Nat) (x1 : List (List UInt8)) (x0 : List Int) (x_3 : List (List UInt8)) (x_6 : List (List UInt8)) : Option (Unit) :=
  hocketlaw5_FifoPlays.L2 K x1 (fun v => hocketlaw5_FifoPlays.J2 K x0 x1 x_3 x_6) K 0
def hocketlaw5_FifoPlays.f (K : Nat) (x0 : List Int) (x1 : List (List UInt8)) : Option (Unit) :=
  if (x1.length : Int) ≤ 12 then (
  hocketlaw5_FifoPlays.J1 K x1 x0 x1 x1)
  else (
  hocketlaw5_FifoPlays.J1 K x1 x0 ([] : List (List UInt8)) ([] : List (List UInt8)))

def hocketlaw5_FifoOrder.J3 (K : Nat) (x_45 : List (List UInt8)) : Option (Unit) :=
  if (x_45.length : Int) = 0 then (
  Option.bind (hocketlaw5_awake.f K) fun t_52 =>
  some ())
  else (
  none)
def hocketlaw5_FifoOrder.J5 (K : Nat) (again_62 : (List (List UInt8)) × Int × Int → Option (Unit)) (t_81 : (List (List UInt8)) × api_Result) (x_60 : Int) (x_61 : Int) (x_95 : Bool) : Option (Unit) :=
  if x_95 = true then (
  none)
  else (
  again_62 (t_81.1, w64 (x_60 + 1), w64 (x_61 + 1)))
def hocketlaw5_FifoOrder.J4 (K : Nat) (x0 : List (List UInt8)) (x_61 : Int) (again_62 : (List (List UInt8)) × Int × Int → Option (Unit)) (x_57 : List (List UInt8)) (x_60 : Int) (x_8 : Int) (ex_62 : (List (List UInt8)) → Option (Unit)) (x_68 : Bool) : Option (Unit) :=
  if x_68 = true then (
  Option.bind (ix x0 x_61) fun t_73 =>
  if (t_73.length : Int) > 16 then (
  again_62 (x_57, x_60, w64 (x_61 + 1)))
  else (
  Option.bind (fifo_Pop.f K x_57) fun t_81 =>
  if t_81.2.Err = 0 then (
  Option.bind (ix x0 x_61) fun t_101 =>
  if t_81.2.Val = t_101 then (
  hocketlaw5_FifoOrder.J5 K again_62 t_81 x_60 x_61 ((x_57.length : Int) != (w64 (x_8 - x_60))))
  else (
  hocketlaw5_FifoOrder.J5 K again_62 t_81 x_60 x_61 true))
  else (
  hocketlaw5_FifoOrder.J5 K again_62 t_81 x_60 x_61 true)))
  else (
  ex_62 x_57)
def hocketlaw5_FifoOrder.B1 (K : Nat) (x0 : List (List UInt8)) (x_8 : Int) (ex_62 : (List (List UInt8)) → Option (Unit)) (again_62 : (List (List UInt8)) × Int × Int → Option (Unit)) (x_57 : List (List UInt8)) (x_60 : Int) (x_61 : Int) : Option (Unit) :=
  if x_61 < (x0.length : Int) then (
  hocketlaw5_FifoOrder.J4 K x0 x_61 again_62 x_57 x_60 x_8 ex_62 (decide (x_60 < x_8)))
  else (
  hocketlaw5_FifoOrder.J4 K x0 x_61 again_62 x_57 x_60 x_8 ex_62 false)
def hocketlaw5_FifoOrder.L1 (K : Nat) (x0 : List (List UInt8)) (x_8 : Int) (ex_62 : (List (List UInt8)) → Option (Unit)) : Nat → (List (List UInt8)) × Int × Int → Option (Unit) :=
  iter fun again v => hocketlaw5_FifoOrder.B1 K x0 x_8 ex_62 again v.1 v.2.1 v.2.2
def hocketlaw5_FifoOrder.J2 (K : Nat) (x0 : List (List UInt8)) (x_8 : Int) (x_3 : List (List UInt8)) (x_39 : Bool) : Option (Unit) :=
  if x_39 = true then (
  none)
  else (
  hocketlaw5_FifoOrder.L1 K x0 x_8 (fun v => hocketlaw5_FifoOrder.J3 K v) K (x_3, 0, 0))
def hocketlaw5_FifoOrder.J1 (K : Nat) (x0 : List (List UInt8)) (x_3 : List (List UInt8)) (x_8 : Int) : Option (Unit) :=
  Option.bind (fifo_Push.f K x_3 ([(120 : UInt8)] : List UInt8)) fun t_22 =>
  if x_8 = 8 then (
  hocketlaw5_FifoOrder.J2 K x0 x_8 x_3 (t_22.2.Err != 3))
  else (
  hocketlaw5_FifoOrder.J2 K x0 x_8 x_3 false)
def hocketlaw5_FifoOrder.J7 (K : Nat) (again_119 : (List (List UInt8)) × Int × Int → Option (Unit)) (t_145 : (List (List UInt8)) × api_Result) (x_117 : Int) (x_118 : Int) (x_163 : Bool) : Option (Unit) :=
  if x_163 = true then (
  none)
  else (
  again_119 (t_145.1, w64 (x_117 + 1), w64 (x_118 + 1)))
def hocketlaw5_FifoOrder.J6 (K : Nat) (x0 : List (List UInt8)) (x_118 : Int) (again_119 : (List (List UInt8)) × Int × Int → Option (Unit)) (x_112 : List (List UInt8)) (x_117 : Int) (ex_119 : (List (List UInt8)) × Int → Option (Unit)) (x_125 : Bool) : Option (Unit) :=
  if x_125 = true then (
  Option.bind (ix x0 x_118) fun t_130 =>
  if (t_130.length : Int) > 16 then (
  again_119 (x_112, x_117, w64 (x_118 + 1)))
  else (
  Option.bind (ix x0 x_118) fun t_138 =>
  Option.bind (fifo_Push.f K x_112 t_138) fun t_145 =>
  if t_145.2.Err = 0 then (
  if t_145.2.N = (w64 (x_117 + 1)) then (
  if (t_145.1.length : Int) = (w64 (x_117 + 1)) then (
  hocketlaw5_FifoOrder.J7 K again_119 t_145 x_117 x_118 ((x_112.length : Int) != x_117))
  else (
  hocketlaw5_FifoOrder.J7 K again_119 t_145 x_117 x_118 true))
  else (
  hocketlaw5_FifoOrder.J7 K again_119 t_145 x_117 x_118 true))
  else (
  hocketlaw5_FifoOrder.J7 K again_119 t_145 x_117 x_118 true)))
  else (
  ex_119 (x_112, x_117))
def hocketlaw5_FifoOrder.B2 (K : Nat) (x0 : List (List UInt8)) (ex_119 : (List (List UInt8)) × Int → Option (Unit)) (again_119 : (List (List UInt8)) × Int × Int → Option (Unit)) (x_112 : List (List UInt8)) (x_117 : Int) (x_118 : Int) : Option (Unit) :=
  if x_118 < (x0.length : Int) then (
  hocketlaw5_FifoOrder.J6 K x0 x_118 again_119 x_112 x_117 ex_119 (decide (x_117 < 8)))
  else (
  hocketlaw5_FifoOrder.J6 K x0 x_118 again_119 x_112 x_117 ex_119 false)
def hocketlaw5_FifoOrder.L2 (K : Nat) (x0 : List (List UInt8)) (ex_119 : (List (List UInt8)) × Int → Option (Unit)) : Nat → (List (List UInt8)) × Int × Int → Option (Unit) :=
  iter fun again v => hocketlaw5_FifoOrder.B2 K x0 ex_119 again v.1 v.2.1 v.2.2
def hocketlaw5_FifoOrder.f (K : Nat) (x0 : List (List UInt8)) : Option (Unit) :=
  hocketlaw5_FifoOrder.L2 K x0 (fun v => hocketlaw5_FifoOrder.J1 K x0 v.1 v.2) K (([] : List (List UInt8)), 0, 0)

def pack_Read.f (x0 : List UInt8) : Option ((List UInt8) × Bool) :=
  Option.bind (slices_Clone_sbyte_byte.f x0) fun t_1 =>
  some (t_1, false)

def pack_held.f (x0 : Int) : Option (Int) :=
  some (mn (mx x0 0) 4611686018427387904)

def pack_Reader_fail.f (x0_b : List UInt8) (x0_bad : Bool) : Option (Int × (List UInt8) × Bool) :=
  some (0, ([] : List UInt8), true)

def pack_Reader_Num.J1 (K : Nat) (x0_b : List UInt8) (x0_bad : Bool) : Option (Int × (List UInt8) × Bool) :=
  Option.bind (pack_Reader_fail.f x0_b x0_bad) fun t_5 =>
  some (t_5.1, t_5.2.1, t_5.2.2)
def pack_Reader_Num.J2 (K : Nat) (ex_15 : Unit → Option (Int × (List UInt8) × Bool)) (x_14 : Int) (t_19 : UInt8) (again_15 : Int × Int → Option (Int × (List UInt8) × Bool)) (x_13 : Int) (x1 : Int) (x0_b : List UInt8) (x0_bad : Bool) (x_27 : Bool) : Option (Int × (List UInt8) × Bool) :=
  if x_27 = true then (
  ex_15 ())
  else (
  Option.bind (must (0 ≤ (w64 (7 * x_14)))) fun u_31 =>
  if (t_19.toNat : Int) ≥ ((128 : UInt8).toNat : Int) then (
  again_15 (bor .i64 x_13 (shl .i64 ((t_19 &&& (127 : UInt8)).toNat : Int) (w64 (7 * x_14))), w64 (x_14 + 1)))
  else (
  Option.bind (pack_held.f x1) fun t_35 =>
  if (bor .i64 x_13 (shl .i64 ((t_19 &&& (127 : UInt8)).toNat : Int) (w64 (7 * x_14)))) > t_35 then (
  ex_15 ())
  else (
  Option.bind (cut x0_b (w64 (x_14 + 1)) (x0_b.length : Int)) fun t_40 =>
  some (bor .i64 x_13 (shl .i64 ((t_19 &&& (127 : UInt8)).toNat : Int) (w64 (7 * x_14))), t_40, x0_bad))))
def pack_Reader_Num.B1 (K : Nat) (x0_b : List UInt8) (x1 : Int) (x0_bad : Bool) (ex_15 : Unit → Option (Int × (List UInt8) × Bool)) (again_15 : Int × Int → Option (Int × (List UInt8) × Bool)) (x_13 : Int) (x_14 : Int) : Option (Int × (List UInt8) × Bool) :=
  if x_14 < (x0_b.length : Int) then (
  Option.bind (ix x0_b x_14) fun t_19 =>
  if x_14 > 8 then (
  pack_Reader_Num.J2 K ex_15 x_14 t_19 again_15 x_13 x1 x0_b x0_bad true)
  else (
  if (t_19.toNat : Int) = ((0 : UInt8).toNat : Int) then (
  pack_Reader_Num.J2 K ex_15 x_14 t_19 again_15 x_13 x1 x0_b x0_bad (decide (x_14 > 0)))
  else (
  pack_Reader_Num.J2 K ex_15 x_14 t_19 again_15 x_13 x1 x0_b x0_bad false)))
  else (
  ex_15 ())
def pack_Reader_Num.L1 (K : Nat) (x0_b : List UInt8) (x1 : Int) (x0_bad : Bool) (ex_15 : Unit → Option (Int × (List UInt8) × Bool)) : Nat → Int × Int → Option (Int × (List UInt8) × Bool) :=
  iter fun again v => pack_Reader_Num.B1 K x0_b x1 x0_bad ex_15 again v.1 v.2
def pack_Reader_Num.f (K : Nat) (x0_b : List UInt8) (x0_bad : Bool) (x1 : Int) : Option (Int × (List UInt8) × Bool) :=
  pack_Reader_Num.L1 K x0_b x1 x0_bad (fun v => pack_Reader_Num.J1 K x0_b x0_bad) K (0, 0)

def pack_Reader_Ok.f (x0_b : List UInt8) (x0_bad : Bool) : Option (Bool × (List UInt8) × Bool) :=
  some (!x0_bad, x0_b, x0_bad)



def pack_Num.J1 (K : Nat) (x_18 : Int) (x_19 : List UInt8) : Option ((List UInt8)) :=
  Option.bind (app 140737488355328 x_19 ([toU8 x_18] : List UInt8)) fun t_32 =>
  some t_32
def pack_Num.B1 (K : Nat) (ex_45 : Int × (List UInt8) → Option ((List UInt8))) (again_45 : Int × (List UInt8) → Option ((List UInt8))) (x_39 : Int) (x_40 : List UInt8) : Option ((List UInt8)) :=
  if x_39 ≥ 128 then (
  Option.bind (app 140737488355328 x_40 ([toU8 (bor .i64 (band .i64 x_39 127) 128)] : List UInt8)) fun t_55 =>
  again_45 (shr .i64 x_39 7, t_55))
  else (
  ex_45 (x_39, x_40))
def pack_Num.L1 (K : Nat) (ex_45 : Int × (List UInt8) → Option ((List UInt8))) : Nat → Int × (List UInt8) → Option ((List UInt8)) :=
  iter fun again v => pack_Num.B1 K ex_45 again v.1 v.2
def pack_Num.f (K : Nat) (x0 : List UInt8) (x1 : Int) : Option ((List UInt8)) :=
  Option.bind (slices_Clone_sbyte_byte.f x0) fun t_1 =>
  Option.bind (pack_held.f x1) fun t_13 =>
  pack_Num.L1 K (fun v => pack_Num.J1 K v.1 v.2) K (t_13, t_1)

def pack_Reader_End.f (x0_b : List UInt8) (x0_bad : Bool) : Option (Bool × (List UInt8) × Bool) :=
  if x0_bad = true then (
  some (false, x0_b, x0_bad))
  else (
  some (((x0_b.length : Int) == 0), x0_b, x0_bad))

def pack_Bytes.f (K : Nat) (x0 : List UInt8) (x1 : List UInt8) : Option ((List UInt8)) :=
  Option.bind (pack_Num.f K x0 (x1.length : Int)) fun t_1 =>
  Option.bind (app 140737488355328 t_1 x1) fun t_9 =>
  some t_9

def pack_Reader_Bytes.f (K : Nat) (x0_b : List UInt8) (x0_bad : Bool) (x1 : Int) : Option ((List UInt8) × (List UInt8) × Bool) :=
  Option.bind (pack_Reader_Num.f K x0_b x0_bad x1) fun t_1 =>
  if t_1.1 > (t_1.2.1.length : Int) then (
  Option.bind (pack_Reader_fail.f t_1.2.1 t_1.2.2) fun t_10 =>
  some (([] : List UInt8), t_10.2.1, t_10.2.2))
  else (
  Option.bind (cut t_1.2.1 0 t_1.1) fun t_18 =>
  Option.bind (slices_Clone_sbyte_byte.f t_18) fun t_21 =>
  Option.bind (cut t_1.2.1 t_1.1 (t_1.2.1.length : Int)) fun t_29 =>
  some (t_21, t_29, t_1.2.2))

def hocketlaw2_awake.f (K : Nat) : Option (Unit) :=
  Option.bind (pack_Num.f K ([] : List UInt8) 300) fun t_1 =>
  Option.bind (pack_Bytes.f K t_1 ([(97 : UInt8), (98 : UInt8)] : List UInt8)) fun t_19 =>
  Option.bind (pack_Read.f t_19) fun t_27 =>
  Option.bind (pack_Reader_Num.f K t_27.1 t_27.2 300) fun t_35 =>
  Option.bind (pack_Reader_Bytes.f K t_35.2.1 t_35.2.2 2) fun t_41 =>
  Option.bind (pack_Reader_End.f t_41.2.1 t_41.2.2) fun t_51 =>
  Option.bind (pack_Read.f ([(128 : UInt8), (0 : UInt8)] : List UInt8)) fun t_63 =>
  Option.bind (pack_Num.f K ([] : List UInt8) 5) fun t_70 =>
  Option.bind (pack_Read.f t_70) fun t_78 =>
  if t_19 = ([172, 2, 2, 97, 98] : List UInt8) then (
  if t_35.1 = 300 then (
  if t_41.1 = ([97, 98] : List UInt8) then (
  if t_51.1 = true then (
  Option.bind (pack_Reader_Num.f K t_63.1 t_63.2 9) fun t_92 =>
  if t_92.1 = 0 then (
  Option.bind (pack_Reader_Ok.f t_92.2.1 t_92.2.2) fun t_99 =>
  if t_99.1 = true then (
  none)
  else (
  Option.bind (pack_Reader_Num.f K t_78.1 t_78.2 4) fun t_106 =>
  if t_106.1 = 0 then (
  Option.bind (pack_Reader_Ok.f t_106.2.1 t_106.2.2) fun t_113 =>
  if t_113.1 = true then (
  none)
  else (
  Option.bind (pack_Reader_End.f t_113.2.1 t_113.2.2) fun t_120 =>
  if t_120.1 = true then (
  none)
  else (
  some ())))
  else (
  none)))
  else (
  none))
  else (
  none))
  else (
  none))
  else (
  none))
  else (
  none)

def hocketlaw2_PackForms.J1 (K : Nat) (t_8 : An_n_b_ok) (t_30 : Int × (List UInt8) × Bool) (x_39 : Bool) (x_40 : pack_Reader) : Option (Unit) :=
  if x_39 = true then (
  none)
  else (
  if t_8.ok = true then (
  Option.bind (pack_Num.f K ([] : List UInt8) t_8.n) fun t_49 =>
  if t_49 = t_8.b then (
  if t_30.1 = (mn (mx t_8.n 0) 4611686018427387904) then (
  Option.bind (pack_Reader_End.f x_40.b x_40.bad) fun t_59 =>
  if t_59.1 = true then (
  Option.bind (hocketlaw2_awake.f K) fun t_66 =>
  some ())
  else (
  none))
  else (
  none))
  else (
  none))
  else (
  Option.bind (hocketlaw2_awake.f K) fun t_70 =>
  some ()))
def hocketlaw2_PackForms.f (K : Nat) (x0 : Int) : Option (Unit) :=
  Option.bind (rem (band .i64 x0 255) (([(⟨0, ([0] : List UInt8), true⟩ : An_n_b_ok), (⟨1, ([1] : List UInt8), true⟩ : An_n_b_ok), (⟨127, ([127] : List UInt8), true⟩ : An_n_b_ok), (⟨128, ([128, 1] : List UInt8), true⟩ : An_n_b_ok), (⟨300, ([172, 2] : List UInt8), true⟩ : An_n_b_ok), (⟨16383, ([255, 127] : List UInt8), true⟩ : An_n_b_ok), (⟨16384, ([128, 128, 1] : List UInt8), true⟩ : An_n_b_ok), (⟨4611686018427387904, ([128, 128, 128, 128, 128, 128, 128, 128, 64] : List UInt8), true⟩ : An_n_b_ok), (⟨(-5), ([0] : List UInt8), true⟩ : An_n_b_ok), (⟨4611686018427387913, ([128, 128, 128, 128, 128, 128, 128, 128, 64] : List UInt8), true⟩ : An_n_b_ok), (⟨0, ([] : List UInt8), false⟩ : An_n_b_ok), (⟨0, ([128] : List UInt8), false⟩ : An_n_b_ok), (⟨0, ([128, 0] : List UInt8), false⟩ : An_n_b_ok), (⟨0, ([255, 0] : List UInt8), false⟩ : An_n_b_ok), (⟨0, ([129, 128, 128, 128, 128, 128, 128, 128, 64] : List UInt8), false⟩ : An_n_b_ok), (⟨0, ([255, 255, 255, 255, 255, 255, 255, 255, 255, 1] : List UInt8), false⟩ : An_n_b_ok)] : List An_n_b_ok).length : Int)) fun t_7 =>
  Option.bind (ix ([(⟨0, ([0] : List UInt8), true⟩ : An_n_b_ok), (⟨1, ([1] : List UInt8), true⟩ : An_n_b_ok), (⟨127, ([127] : List UInt8), true⟩ : An_n_b_ok), (⟨128, ([128, 1] : List UInt8), true⟩ : An_n_b_ok), (⟨300, ([172, 2] : List UInt8), true⟩ : An_n_b_ok), (⟨16383, ([255, 127] : List UInt8), true⟩ : An_n_b_ok), (⟨16384, ([128, 128, 1] : List UInt8), true⟩ : An_n_b_ok), (⟨4611686018427387904, ([128, 128, 128, 128, 128, 128, 128, 128, 64] : List UInt8), true⟩ : An_n_b_ok), (⟨(-5), ([0] : List UInt8), true⟩ : An_n_b_ok), (⟨4611686018427387913, ([128, 128, 128, 128, 128, 128, 128, 128, 64] : List UInt8), true⟩ : An_n_b_ok), (⟨0, ([] : List UInt8), false⟩ : An_n_b_ok), (⟨0, ([128] : List UInt8), false⟩ : An_n_b_ok), (⟨0, ([128, 0] : List UInt8), false⟩ : An_n_b_ok), (⟨0, ([255, 0] : List UInt8), false⟩ : An_n_b_ok), (⟨0, ([129, 128, 128, 128, 128, 128, 128, 128, 64] : List UInt8), false⟩ : An_n_b_ok), (⟨0, ([255, 255, 255, 255, 255, 255, 255, 255, 255, 1] : List UInt8), false⟩ : An_n_b_ok)] : List An_n_b_ok) t_7) fun t_8 =>
  Option.bind (must (t_8.b.length ≤ 9223372036854775807)) fun u_16 =>
  Option.bind (pack_Read.f t_8.b) fun t_22 =>
  Option.bind (pack_Reader_Num.f K t_22.1 t_22.2 4611686018427387904) fun t_30 =>
  Option.bind (pack_Reader_Ok.f t_30.2.1 t_30.2.2) fun t_75 =>
  if t_75.1 = t_8.ok then (
  if t_8.ok = true then (
  hocketlaw2_PackForms.J1 K t_8 t_30 false (⟨t_75.2.1, t_75.2.2⟩ : pack_Reader))
  else (
  hocketlaw2_PackForms.J1 K t_8 t_30 (t_30.1 != 0) (⟨t_75.2.1, t_75.2.2⟩ : pack_Reader)))
  else (
  hocketlaw2_PackForms.J1 K t_8 t_30 true (⟨t_75.2.1, t_75.2.2⟩ : pack_Reader))

def hocketlaw2_PackStops.J1 (K : Nat) (x_58 : Bool) : Option (Unit) :=
  if x_58 = true then (
  none)
  else (
  Option.bind (pack_Num.f K ([] : List UInt8) 5) fun t_62 =>
  Option.bind (app 140737488355328 t_62 ([(1 : UInt8), (2 : UInt8), (3 : UInt8)] : List UInt8)) fun t_76 =>
  Option.bind (pack_Read.f t_76) fun t_82 =>
  Option.bind (pack_Reader_Num.f K t_82.1 t_82.2 4) fun t_91 =>
  if t_91.1 = 0 then (
  Option.bind (pack_Reader_Num.f K t_91.2.1 t_91.2.2 9) fun t_98 =>
  if t_98.1 = 0 then (
  Option.bind (pack_Reader_Bytes.f K t_98.2.1 t_98.2.2 9) fun t_105 =>
  if (t_105.1.length : Int) = 0 then (
  Option.bind (pack_Reader_Ok.f t_105.2.1 t_105.2.2) fun t_116 =>
  if t_116.1 = true then (
  none)
  else (
  Option.bind (pack_Reader_End.f t_116.2.1 t_116.2.2) fun t_123 =>
  if t_123.1 = true then (
  none)
  else (
  Option.bind (hocketlaw2_awake.f K) fun t_130 =>
  some ())))
  else (
  none))
  else (
  none))
  else (
  none))
def hocketlaw2_PackStops.f (K : Nat) (x0 : List UInt8) (x1 : Int) : Option (Unit) :=
  if (x0.length : Int) > 200 then (
  Option.bind (hocketlaw2_awake.f K) fun t_3 =>
  some ())
  else (
  Option.bind (pack_Bytes.f K ([] : List UInt8) x0) fun t_7 =>
  Option.bind (pack_Num.f K t_7 (band .i64 x1 65535)) fun t_15 =>
  Option.bind (pack_Bytes.f K ([] : List UInt8) x0) fun t_23 =>
  Option.bind (app 140737488355328 t_15 t_23) fun t_31 =>
  Option.bind (pack_Read.f t_31) fun t_37 =>
  Option.bind (pack_Reader_Bytes.f K t_37.1 t_37.2 200) fun t_45 =>
  if t_45.1 = x0 then (
  Option.bind (pack_Reader_Ok.f t_45.2.1 t_45.2.2) fun t_136 =>
  if t_136.1 = true then (
  Option.bind (pack_Reader_Num.f K t_136.2.1 t_136.2.2 (band .i64 x1 65535)) fun t_143 =>
  if t_143.1 = (band .i64 x1 65535) then (
  Option.bind (pack_Reader_Bytes.f K t_143.2.1 t_143.2.2 200) fun t_150 =>
  if t_150.1 = x0 then (
  Option.bind (pack_Reader_End.f t_150.2.1 t_150.2.2) fun t_161 =>
  hocketlaw2_PackStops.J1 K (!t_161.1))
  else (
  hocketlaw2_PackStops.J1 K true))
  else (
  hocketlaw2_PackStops.J1 K true))
  else (
  hocketlaw2_PackStops.J1 K true))
  else (
  hocketlaw2_PackStops.J1 K true))

def hocketref1_Num.J1 (K : Nat) (x_15 : Int) (x_16 : List UInt8) : Option ((List UInt8)) :=
  Option.bind (app 140737488355328 x_16 ([toU8 x_15] : List UInt8)) fun t_29 =>
  some t_29
def hocketref1_Num.B1 (K : Nat) (ex_42 : Int × (List UInt8) → Option ((List UInt8))) (again_42 : Int × (List UInt8) → Option ((List UInt8))) (x_36 : Int) (x_37 : List UInt8) : Option ((List UInt8)) :=
  if x_36 > 127 then (
  Option.bind (app 140737488355328 x_37 ([toU8 (bor .i64 (band .i64 x_36 127) 128)] : List UInt8)) fun t_52 =>
  again_42 (shr .i64 x_36 7, t_52))
  else (
  ex_42 (x_36, x_37))
def hocketref1_Num.L1 (K : Nat) (ex_42 : Int × (List UInt8) → Option ((List UInt8))) : Nat → Int × (List UInt8) → Option ((List UInt8)) :=
  iter fun again v => hocketref1_Num.B1 K ex_42 again v.1 v.2
def hocketref1_Num.f (K : Nat) (x0 : List UInt8) (x1 : Int) : Option ((List UInt8)) :=
  Option.bind (app 140737488355328 ([] : List UInt8) x0) fun t_7 =>
  hocketref1_Num.L1 K (fun v => hocketref1_Num.J1 K v.1 v.2) K (mn (mx x1 0) 4611686018427387904, t_7)

def hocketref1_Bytes.f (K : Nat) (x0 : List UInt8) (x1 : List UInt8) : Option ((List UInt8)) :=
  Option.bind (hocketref1_Num.f K x0 (x1.length : Int)) fun t_1 =>
  Option.bind (app 140737488355328 t_1 x1) fun t_9 =>
  some t_9

def hocketref1_Reader_Num.J1 (K : Nat) (x0_B : List UInt8) (x_3 : Bool) : Option (Int × (List UInt8) × Bool) :=
  some (0, x0_B, x_3)
def hocketref1_Reader_Num.J3 (K : Nat) (ex_9 : Bool → Option (Int × (List UInt8) × Bool)) (x0_B : List UInt8) (x_8 : Int) (x_7 : Int) (t_21 : UInt8) (x0_Bad : Bool) (x_30 : Bool) : Option (Int × (List UInt8) × Bool) :=
  if x_30 = true then (
  ex_9 true)
  else (
  Option.bind (cut x0_B (w64 (x_8 + 1)) (x0_B.length : Int)) fun t_35 =>
  some (w64 (bor .u64 x_7 (shl .u64 (wu64 ((t_21 &&& (127 : UInt8)).toNat : Int)) (wu64 (w64 (7 * x_8))))), t_35, x0_Bad))
def hocketref1_Reader_Num.J2 (K : Nat) (ex_9 : Bool → Option (Int × (List UInt8) × Bool)) (x0_B : List UInt8) (x_8 : Int) (x_7 : Int) (x0_Bad : Bool) (x1 : Int) (again_9 : Int × Int → Option (Int × (List UInt8) × Bool)) (x_16 : Bool) : Option (Int × (List UInt8) × Bool) :=
  if x_16 = true then (
  ex_9 true)
  else (
  Option.bind (ix x0_B x_8) fun t_21 =>
  if (t_21.toNat : Int) < ((128 : UInt8).toNat : Int) then (
  if (t_21.toNat : Int) = ((0 : UInt8).toNat : Int) then (
  if (w64 (x_8 + 1)) > 1 then (
  hocketref1_Reader_Num.J3 K ex_9 x0_B x_8 x_7 t_21 x0_Bad true)
  else (
  hocketref1_Reader_Num.J3 K ex_9 x0_B x_8 x_7 t_21 x0_Bad (decide ((bor .u64 x_7 (shl .u64 (wu64 ((t_21 &&& (127 : UInt8)).toNat : Int)) (wu64 (w64 (7 * x_8))))) > (wu64 (mn (mx x1 0) 4611686018427387904))))))
  else (
  hocketref1_Reader_Num.J3 K ex_9 x0_B x_8 x_7 t_21 x0_Bad (decide ((bor .u64 x_7 (shl .u64 (wu64 ((t_21 &&& (127 : UInt8)).toNat : Int)) (wu64 (w64 (7 * x_8))))) > (wu64 (mn (mx x1 0) 4611686018427387904))))))
  else (
  again_9 (bor .u64 x_7 (shl .u64 (wu64 ((t_21 &&& (127 : UInt8)).toNat : Int)) (wu64 (w64 (7 * x_8)))), w64 (x_8 + 1))))
def hocketref1_Reader_Num.B1 (K : Nat) (x0_Bad : Bool) (x0_B : List UInt8) (x1 : Int) (ex_9 : Bool → Option (Int × (List UInt8) × Bool)) (again_9 : Int × Int → Option (Int × (List UInt8) × Bool)) (x_7 : Int) (x_8 : Int) : Option (Int × (List UInt8) × Bool) :=
  if x0_Bad = true then (
  ex_9 x0_Bad)
  else (
  if x_8 ≥ (x0_B.length : Int) then (
  hocketref1_Reader_Num.J2 K ex_9 x0_B x_8 x_7 x0_Bad x1 again_9 true)
  else (
  hocketref1_Reader_Num.J2 K ex_9 x0_B x_8 x_7 x0_Bad x1 again_9 (decide (x_8 > 8))))
def hocketref1_Reader_Num.L1 (K : Nat) (x0_Bad : Bool) (x0_B : List UInt8) (x1 : Int) (ex_9 : Bool → Option (Int × (List UInt8) × Bool)) : Nat → Int × Int → Option (Int × (List UInt8) × Bool) :=
  iter fun again v => hocketref1_Reader_Num.B1 K x0_Bad x0_B x1 ex_9 again v.1 v.2
def hocketref1_Reader_Num.f (K : Nat) (x0_B : List UInt8) (x0_Bad : Bool) (x1 : Int) : Option (Int × (List UInt8) × Bool) :=
  hocketref1_Reader_Num.L1 K x0_Bad x0_B x1 (fun v => hocketref1_Reader_Num.J1 K x0_B v) K (0, 0)

def hocketref1_Reader_Bytes.J1 (K : Nat) (x0_B : List UInt8) (t_1 : Int × (List UInt8) × Bool) (x_11 : Bool) : Option ((List UInt8) × (List UInt8) × Bool) :=
  if x_11 = true then (
  some (([] : List UInt8), x0_B, true))
  else (
  Option.bind (cut t_1.2.1 0 t_1.1) fun t_24 =>
  Option.bind (app 140737488355328 ([] : List UInt8) t_24) fun t_27 =>
  Option.bind (cut t_1.2.1 t_1.1 (t_1.2.1.length : Int)) fun t_33 =>
  some (t_27, t_33, t_1.2.2))
def hocketref1_Reader_Bytes.f (K : Nat) (x0_B : List UInt8) (x0_Bad : Bool) (x1 : Int) : Option ((List UInt8) × (List UInt8) × Bool) :=
  Option.bind (hocketref1_Reader_Num.f K x0_B x0_Bad x1) fun t_1 =>
  if t_1.2.2 = true then (
  hocketref1_Reader_Bytes.J1 K x0_B t_1 true)
  else (
  hocketref1_Reader_Bytes.J1 K x0_B t_1 (decide (t_1.1 > (t_1.2.1.length : Int))))

def hocketref1_Reader_End.f (x0_B : List UInt8) (x0_Bad : Bool) : Option (Bool × (List UInt8) × Bool) :=
  if x0_Bad = true then (
  some (false, x0_B, x0_Bad))
  else (
  some (((x0_B.length : Int) == 0), x0_B, x0_Bad))

def hocketlaw2_PackPlays.J3 (K : Nat) : Option (Unit) :=
  Option.bind (hocketlaw2_awake.f K) fun t_92 =>
  some ()
def hocketlaw2_PackPlays.J4 (K : Nat) (again_98 : Int → Option (Unit)) (x_97 : Int) : Option (Unit) :=
  again_98 (w64 (x_97 + 1))
def hocketlaw2_PackPlays.J7 (K : Nat) (again_132 : Int × pack_Reader × hocketref1_Reader → Option (Unit)) (x_125 : Int) (x_159 : Bool) (x_160 : pack_Reader) (x_163 : hocketref1_Reader) : Option (Unit) :=
  if x_159 = true then (
  none)
  else (
  again_132 (w64 (x_125 + 1), x_160, x_163))
def hocketlaw2_PackPlays.J6 (K : Nat) (again_132 : Int × pack_Reader × hocketref1_Reader → Option (Unit)) (x_125 : Int) (x_149 : pack_Reader) (x_152 : hocketref1_Reader) : Option (Unit) :=
  Option.bind (pack_Reader_Ok.f x_149.b x_149.bad) fun t_170 =>
  if t_170.1 = (!x_152.Bad) then (
  Option.bind (pack_Reader_End.f t_170.2.1 t_170.2.2) fun t_177 =>
  Option.bind (hocketref1_Reader_End.f x_152.B x_152.Bad) fun t_183 =>
  hocketlaw2_PackPlays.J7 K again_132 x_125 (!(t_177.1 == t_183.1)) (⟨t_177.2.1, t_177.2.2⟩ : pack_Reader) (⟨t_183.2.1, t_183.2.2⟩ : hocketref1_Reader))
  else (
  hocketlaw2_PackPlays.J7 K again_132 x_125 true (⟨t_170.2.1, t_170.2.2⟩ : pack_Reader) x_152)
def hocketlaw2_PackPlays.J5 (K : Nat) (x2 : List Int) (x_125 : Int) (x3 : List Int) (x_126 : pack_Reader) (x_129 : hocketref1_Reader) (again_132 : Int × pack_Reader × hocketref1_Reader → Option (Unit)) (ex_132 : Unit → Option (Unit)) (x_137 : Bool) : Option (Unit) :=
  if x_137 = true then (
  Option.bind (ix x2 x_125) fun t_143 =>
  if (band .i64 t_143 3) = 0 then (
  Option.bind (ix x3 x_125) fun t_213 =>
  Option.bind (ix x3 x_125) fun t_218 =>
  Option.bind (pack_Reader_Bytes.f K x_126.b x_126.bad t_213) fun t_223 =>
  Option.bind (hocketref1_Reader_Bytes.f K x_129.B x_129.Bad t_218) fun t_233 =>
  if t_223.1 = t_233.1 then (
  hocketlaw2_PackPlays.J6 K again_132 x_125 (⟨t_223.2.1, t_223.2.2⟩ : pack_Reader) (⟨t_233.2.1, t_233.2.2⟩ : hocketref1_Reader))
  else (
  none))
  else (
  Option.bind (ix x3 x_125) fun t_260 =>
  Option.bind (ix x3 x_125) fun t_265 =>
  Option.bind (pack_Reader_Num.f K x_126.b x_126.bad t_260) fun t_270 =>
  Option.bind (hocketref1_Reader_Num.f K x_129.B x_129.Bad t_265) fun t_276 =>
  if t_270.1 = t_276.1 then (
  hocketlaw2_PackPlays.J6 K again_132 x_125 (⟨t_270.2.1, t_270.2.2⟩ : pack_Reader) (⟨t_276.2.1, t_276.2.2⟩ : hocketref1_Reader))
  else (
  none)))
  else (
  ex_132 ())
def hocketlaw2_PackPlays.B2 (K : Nat) (x2 : List Int) (x3 : List Int) (ex_132 : Unit → Option (Unit)) (again_132 : Int × pack_Reader × hocketref1_Reader → Option (Unit)) (x_125 : Int) (x_126 : pack_Reader) (x_129 : hocketref1_Reader) : Option (Unit) :=
  if x_125 < (x2.length : Int) then (
  if x_125 < (x3.length : Int) then (
  hocketlaw2_PackPlays.J5 K x2 x_125 x3 x_126 x_129 again_132 ex_132 (decide (x_125 < 20)))
  else (
  hocketlaw2_PackPlays.J5 K x2 x_125 x3 x_126 x_129 again_132 ex_132 false))
  else (
  hocketlaw2_PackPlays.J5 K x2 x_125 x3 x_126 x_129 again_132 ex_132 false)
def hocketlaw2_PackPlays.L2 (K : Nat) (x2 : List Int) (x3 : List Int) (ex_132 : Unit → Option (Unit)) : Nat → Int × pack_Reader × hocketref1_Reader → Option (Unit) :=
  iter fun again v => hocketlaw2_PackPlays.B2 K x2 x3 ex_132 again v.1 v.2.1 v.2.2
def hocketlaw2_PackPlays.B1 (K : Nat) (x0 : List UInt8) (x_21 : List UInt8) (x_49 : List UInt8) (t_60 : List UInt8) (t_75 : List UInt8) (x2 : List Int) (x3 : List Int) (ex_98 : Unit → Option (Unit)) (again_98 : Int → Option (Unit)) (x_97 : Int) : Option (Unit) :=
  if x_97 < (([x0, x_21, x_49, t_60, t_75] : List (List UInt8)).length : Int) then (
  Option.bind (ix ([x0, x_21, x_49, t_60, t_75] : List (List UInt8)) x_97) fun t_103 =>
  Option.bind (pack_Read.f t_103) fun t_110 =>
  hocketlaw2_PackPlays.L2 K x2 x3 (fun v => hocketlaw2_PackPlays.J4 K again_98 x_97) K (0, (⟨t_110.1, t_110.2⟩ : pack_Reader), (⟨t_103, false⟩ : hocketref1_Reader)))
  else (
  ex_98 ())
def hocketlaw2_PackPlays.L1 (K : Nat) (x0 : List UInt8) (x_21 : List UInt8) (x_49 : List UInt8) (t_60 : List UInt8) (t_75 : List UInt8) (x2 : List Int) (x3 : List Int) (ex_98 : Unit → Option (Unit)) : Nat → Int → Option (Unit) :=
  iter fun again v => hocketlaw2_PackPlays.B1 K x0 x_21 x_49 t_60 t_75 x2 x3 ex_98 again v
def hocketlaw2_PackPlays.J2 (K : Nat) (x_21 : List UInt8) (x0 : List UInt8) (x2 : List Int) (x3 : List Int) (x_49 : List UInt8) : Option (Unit) :=
  Option.bind (cut x_21 0 (w64 (Int.tdiv (x_21.length : Int) 2))) fun t_60 =>
  Option.bind (app 140737488355328 ([] : List UInt8) x_21) fun t_69 =>
  Option.bind (app 140737488355328 t_69 x0) fun t_75 =>
  hocketlaw2_PackPlays.L1 K x0 x_21 x_49 t_60 t_75 x2 x3 (fun v => hocketlaw2_PackPlays.J3 K) K 0
def hocketlaw2_PackPlays.J1 (K : Nat) (x4 : Int) (x0 : List UInt8) (x2 : List Int) (x3 : List Int) (x5 : UInt8) (x_21 : List UInt8) (x_26 : List UInt8) : Option (Unit) :=
  if x_21 = x_26 then (
  Option.bind (app 140737488355328 ([] : List UInt8) x_21) fun t_41 =>
  if (t_41.length : Int) > 0 then (
  Option.bind (rem (band .i64 x4 65535) (t_41.length : Int)) fun t_287 =>
  Option.bind (ix t_41 t_287) fun t_288 =>
  hocketlaw2_PackPlays.J2 K x_21 x0 x2 x3 (t_41.set (t_287).toNat x5))
  else (
  hocketlaw2_PackPlays.J2 K x_21 x0 x2 x3 t_41))
  else (
  none)
def hocketlaw2_PackPlays.J9 (K : Nat) (x_296 : List UInt8) (x_301 : List UInt8) (x_306 : Int) (x0 : List UInt8) (again_307 : (List UInt8) × (List UInt8) × Int → Option (Unit)) (x_324 : Int) : Option (Unit) :=
  Option.bind (pack_Num.f K x_296 x_324) fun t_327 =>
  Option.bind (hocketref1_Num.f K x_301 x_324) fun t_335 =>
  if (band .i64 x_306 3) = 3 then (
  Option.bind (cut x0 0 (mn (x0.length : Int) x_306)) fun t_345 =>
  Option.bind (cut x0 0 (mn (x0.length : Int) x_306)) fun t_348 =>
  Option.bind (pack_Bytes.f K t_327 t_345) fun t_351 =>
  Option.bind (hocketref1_Bytes.f K t_335 t_348) fun t_359 =>
  again_307 (t_351, t_359, w64 (x_306 + 1)))
  else (
  again_307 (t_327, t_335, w64 (x_306 + 1)))
def hocketlaw2_PackPlays.J8 (K : Nat) (x1 : List Int) (x_306 : Int) (x_296 : List UInt8) (x_301 : List UInt8) (x0 : List UInt8) (again_307 : (List UInt8) × (List UInt8) × Int → Option (Unit)) (ex_307 : (List UInt8) × (List UInt8) → Option (Unit)) (x_312 : Bool) : Option (Unit) :=
  if x_312 = true then (
  Option.bind (ix x1 x_306) fun t_317 =>
  if (band .i64 t_317 1) = 0 then (
  hocketlaw2_PackPlays.J9 K x_296 x_301 x_306 x0 again_307 (shr .i64 t_317 (wu64 x_306)))
  else (
  hocketlaw2_PackPlays.J9 K x_296 x_301 x_306 x0 again_307 t_317))
  else (
  ex_307 (x_296, x_301))
def hocketlaw2_PackPlays.B3 (K : Nat) (x1 : List Int) (x0 : List UInt8) (ex_307 : (List UInt8) × (List UInt8) → Option (Unit)) (again_307 : (List UInt8) × (List UInt8) × Int → Option (Unit)) (x_296 : List UInt8) (x_301 : List UInt8) (x_306 : Int) : Option (Unit) :=
  if x_306 < (x1.length : Int) then (
  hocketlaw2_PackPlays.J8 K x1 x_306 x_296 x_301 x0 again_307 ex_307 (decide (x_306 < 10)))
  else (
  hocketlaw2_PackPlays.J8 K x1 x_306 x_296 x_301 x0 again_307 ex_307 false)
def hocketlaw2_PackPlays.L3 (K : Nat) (x1 : List Int) (x0 : List UInt8) (ex_307 : (List UInt8) × (List UInt8) → Option (Unit)) : Nat → (List UInt8) × (List UInt8) × Int → Option (Unit) :=
  iter fun again v => hocketlaw2_PackPlays.B3 K x1 x0 ex_307 again v.1 v.2.1 v.2.2
def hocketlaw2_PackPlays.f (K : Nat) (x0 : List UInt8) (x1 : List Int) (x2 : List Int) (x3 : List Int) (x4 : Int) (x5 : UInt8) : Option (Unit) :=
  if (x0.length : Int) > 200 then (
  Option.bind (hocketlaw2_awake.f K) fun t_3 =>
  some ())
  else (
  hocketlaw2_PackPlays.L3 K x1 x0 (fun v => hocketlaw2_PackPlays.J1 K x4 x0 x2 x3 x5 v.1 v.2) K (([] : List UInt8), ([] : List UInt8), 0))

def hocketlaw2_PackBack.J3 (K : Nat) (t_49 : (List UInt8) × (List UInt8) × Bool) (x1 : List UInt8) (t_59 : (List UInt8)) (t_21 : (List UInt8)) (x_77 : Bool) : Option (Unit) :=
  if x_77 = true then (
  none)
  else (
  Option.bind (pack_Reader_End.f t_49.2.1 t_49.2.2) fun t_82 =>
  if t_82.1 = true then (
  if t_49.1 = x1 then (
  if t_59 = t_21 then (
  Option.bind (hocketlaw2_awake.f K) fun t_91 =>
  some ())
  else (
  none))
  else (
  none))
  else (
  none))
def hocketlaw2_PackBack.J2 (K : Nat) (x1 : List UInt8) (t_21 : (List UInt8)) (x_14 : List Int) (x_39 : List UInt8) (x_44 : pack_Reader) : Option (Unit) :=
  Option.bind (pack_Reader_Bytes.f K x_44.b x_44.bad (x1.length : Int)) fun t_49 =>
  Option.bind (pack_Bytes.f K x_39 t_49.1) fun t_59 =>
  Option.bind (pack_Read.f t_21) fun t_67 =>
  if (x_14.length : Int) > 0 then (
  Option.bind (ix x_14 0) fun t_96 =>
  if t_96 > 0 then (
  Option.bind (ix x_14 0) fun t_102 =>
  Option.bind (pack_Reader_Num.f K t_67.1 t_67.2 (w64 (t_102 - 1))) fun t_107 =>
  if t_107.1 = 0 then (
  Option.bind (pack_Reader_Ok.f t_107.2.1 t_107.2.2) fun t_114 =>
  hocketlaw2_PackBack.J3 K t_49 x1 t_59 t_21 t_114.1)
  else (
  hocketlaw2_PackBack.J3 K t_49 x1 t_59 t_21 true))
  else (
  hocketlaw2_PackBack.J3 K t_49 x1 t_59 t_21 false))
  else (
  hocketlaw2_PackBack.J3 K t_49 x1 t_59 t_21 false)
def hocketlaw2_PackBack.B1 (K : Nat) (x_14 : List Int) (ex_130 : (List UInt8) × pack_Reader → Option (Unit)) (again_130 : (List UInt8) × Int × pack_Reader → Option (Unit)) (x_121 : List UInt8) (x_126 : Int) (x_127 : pack_Reader) : Option (Unit) :=
  if x_126 < (x_14.length : Int) then (
  Option.bind (ix x_14 x_126) fun t_135 =>
  Option.bind (pack_Reader_Num.f K x_127.b x_127.bad t_135) fun t_140 =>
  Option.bind (ix x_14 x_126) fun t_147 =>
  if t_140.1 = t_147 then (
  Option.bind (pack_Num.f K x_121 t_140.1) fun t_153 =>
  again_130 (t_153, w64 (x_126 + 1), (⟨t_140.2.1, t_140.2.2⟩ : pack_Reader)))
  else (
  none))
  else (
  ex_130 (x_121, x_127))
def hocketlaw2_PackBack.L1 (K : Nat) (x_14 : List Int) (ex_130 : (List UInt8) × pack_Reader → Option (Unit)) : Nat → (List UInt8) × Int × pack_Reader → Option (Unit) :=
  iter fun again v => hocketlaw2_PackBack.B1 K x_14 ex_130 again v.1 v.2.1 v.2.2
def hocketlaw2_PackBack.J1 (K : Nat) (x1 : List UInt8) (x_9 : List UInt8) (x_14 : List Int) : Option (Unit) :=
  Option.bind (pack_Bytes.f K x_9 x1) fun t_21 =>
  Option.bind (pack_Read.f t_21) fun t_29 =>
  hocketlaw2_PackBack.L1 K x_14 (fun v => hocketlaw2_PackBack.J2 K x1 t_21 x_14 v.1 v.2) K (([] : List UInt8), 0, (⟨t_29.1, t_29.2⟩ : pack_Reader))
def hocketlaw2_PackBack.J4 (K : Nat) (x0 : List Int) (x_172 : Int) (x_167 : List Int) (x_162 : List UInt8) (again_173 : (List UInt8) × (List Int) × Int → Option (Unit)) (ex_173 : (List UInt8) × (List Int) → Option (Unit)) (x_180 : Bool) : Option (Unit) :=
  if x_180 = true then (
  Option.bind (ix x0 x_172) fun t_184 =>
  Option.bind (app 17592186044416 x_167 ([mn (mx t_184 0) 4611686018427387904] : List Int)) fun t_195 =>
  Option.bind (ix x0 x_172) fun t_201 =>
  Option.bind (pack_Num.f K x_162 t_201) fun t_206 =>
  again_173 (t_206, t_195, w64 (x_172 + 1)))
  else (
  ex_173 (x_162, x_167))
def hocketlaw2_PackBack.B2 (K : Nat) (x0 : List Int) (ex_173 : (List UInt8) × (List Int) → Option (Unit)) (again_173 : (List UInt8) × (List Int) × Int → Option (Unit)) (x_162 : List UInt8) (x_167 : List Int) (x_172 : Int) : Option (Unit) :=
  if x_172 < (x0.length : Int) then (
  hocketlaw2_PackBack.J4 K x0 x_172 x_167 x_162 again_173 ex_173 (decide (x_172 < 12)))
  else (
  hocketlaw2_PackBack.J4 K x0 x_172 x_167 x_162 again_173 ex_173 false)
def hocketlaw2_PackBack.L2 (K : Nat) (x0 : List Int) (ex_173 : (List UInt8) × (List Int) → Option (Unit)) : Nat → (List UInt8) × (List Int) × Int → Option (Unit) :=
  iter fun again v => hocketlaw2_PackBack.B2 K x0 ex_173 again v.1 v.2.1 v.2.2
def hocketlaw2_PackBack.f (K : Nat) (x0 : List Int) (x1 : List UInt8) (x2 : Int) : Option (Unit) :=
  if (x1.length : Int) > 200 then (
  Option.bind (hocketlaw2_awake.f K) fun t_3 =>
  some ())
  else (
  hocketlaw2_PackBack.L2 K x0 (fun v => hocketlaw2_PackBack.J1 K x1 v.1 v.2) K (([] : List UInt8), ([] : List Int), 0))
end Go.Gp
