/- The functions that the law reaches, told plainly. -/
import Derived.Test.YtbjefkmbpbdhbaaLa
namespace Go.Gp
set_option linter.unusedVariables false
structure api_Result where
  Err : Int
  Val : List UInt8
  N : Int
  deriving DecidableEq
structure An_s_old_v_want_e_val where
  s : List UInt8
  old : List UInt8
  v : List UInt8
  want : List UInt8
  e : Int
  val : List UInt8
  deriving DecidableEq
structure An_n_b_ok where
  n : Int
  b : List UInt8
  ok : Bool
  deriving DecidableEq
def slices_Clone_sbyte_byte.f (x0 : List UInt8) : Option (List UInt8) :=
  app 140737488355328 ([] : List UInt8) x0

def regs_Write.f (x0 : List UInt8) (x1 : List UInt8) : Option ((List UInt8) × api_Result) :=
  if (x1.length : Int) > 16 then (
  Option.bind (slices_Clone_sbyte_byte.f x0) fun t_5 =>
  some (t_5, (⟨1, ([] : List UInt8), 0⟩ : api_Result)))
  else (
  Option.bind (slices_Clone_sbyte_byte.f x1) fun t_15 =>
  some (t_15, (⟨0, ([] : List UInt8), 0⟩ : api_Result)))

def bytes_Equal.f (x0 : List UInt8) (x1 : List UInt8) : Option (Bool) :=
  some (x0 == x1)

def regs_Cas.j_8 (x0 : List UInt8) (x2 : List UInt8) (x_6 : Bool) : Option ((List UInt8) × api_Result) :=
  if x_6 = true then (
  Option.bind (slices_Clone_sbyte_byte.f x0) fun t_10 =>
  Option.bind (slices_Clone_sbyte_byte.f x0) fun t_18 =>
  some (t_10, (⟨2, t_18, 0⟩ : api_Result)))
  else (
  Option.bind (regs_Write.f x0 x2) fun t_27 =>
  some (t_27.1, t_27.2))
def regs_Cas.f (x0 : List UInt8) (x1 : List UInt8) (x2 : List UInt8) : Option ((List UInt8) × api_Result) :=
  if (x2.length : Int) ≤ 16 then (
  Option.bind (bytes_Equal.f x0 x1) fun t_41 =>
  regs_Cas.j_8 x0 x2 (!t_41))
  else (
  regs_Cas.j_8 x0 x2 false)

def regs_Read.f (x0 : List UInt8) : Option (api_Result) :=
  Option.bind (slices_Clone_sbyte_byte.f x0) fun t_3 =>
  some (⟨0, t_3, 0⟩ : api_Result)

def hocketlaw4_awake.f : Option (Unit) :=
  Option.bind (regs_Write.f ([(97 : UInt8)] : List UInt8) ([(98 : UInt8)] : List UInt8)) fun t_21 =>
  Option.bind (regs_Cas.f t_21.1 ([(97 : UInt8)] : List UInt8) ([(99 : UInt8)] : List UInt8)) fun t_56 =>
  Option.bind (mk 140737488355328 17 (0 : UInt8)) fun t_71 =>
  Option.bind (regs_Write.f t_21.1 t_71) fun t_77 =>
  if t_21.1 = ([98] : List UInt8) then (
  if t_21.2.Err = 0 then (
  if t_56.1 = ([98] : List UInt8) then (
  if t_56.2.Err = 2 then (
  if t_56.2.Val = ([98] : List UInt8) then (
  if t_77.2.Err = 1 then (
  Option.bind (regs_Read.f t_21.1) fun t_99 =>
  if t_99.Val = ([98] : List UInt8) then (
  some ())
  else (
  none))
  else (
  none))
  else (
  none))
  else (
  none))
  else (
  none))
  else (
  none))
  else (
  none)

def hocketlaw4_RegsForms.j_79 (t_34 : (List UInt8) × api_Result) (t_8 : An_s_old_v_want_e_val) (x_77 : Bool) : Option (Unit) :=
  if x_77 = true then (
  none)
  else (
  if t_34.1 = t_8.want then (
  if t_34.2.Err = t_8.e then (
  if t_34.2.Val = t_8.val then (
  if t_34.2.N = 0 then (
  Option.bind (hocketlaw4_awake.f) fun t_86 =>
  some ())
  else (
  none))
  else (
  none))
  else (
  none))
  else (
  none))
def hocketlaw4_RegsForms.f (x0 : Int) : Option (Unit) :=
  Option.bind (rem (band .i64 x0 255) (([(⟨([] : List UInt8), ([] : List UInt8), ([] : List UInt8), ([] : List UInt8), 0, ([] : List UInt8)⟩ : An_s_old_v_want_e_val), (⟨([97] : List UInt8), ([97] : List UInt8), ([98] : List UInt8), ([98] : List UInt8), 0, ([] : List UInt8)⟩ : An_s_old_v_want_e_val), (⟨([97] : List UInt8), ([] : List UInt8), ([98] : List UInt8), ([97] : List UInt8), 2, ([97] : List UInt8)⟩ : An_s_old_v_want_e_val), (⟨([] : List UInt8), ([97] : List UInt8), ([98] : List UInt8), ([] : List UInt8), 2, ([] : List UInt8)⟩ : An_s_old_v_want_e_val), (⟨([97] : List UInt8), ([97] : List UInt8), ([48, 49, 50, 51, 52, 53, 54, 55, 56, 57, 48, 49, 50, 51, 52, 53, 54] : List UInt8), ([97] : List UInt8), 1, ([] : List UInt8)⟩ : An_s_old_v_want_e_val), (⟨([97] : List UInt8), ([120] : List UInt8), ([48, 49, 50, 51, 52, 53, 54, 55, 56, 57, 48, 49, 50, 51, 52, 53, 54] : List UInt8), ([97] : List UInt8), 1, ([] : List UInt8)⟩ : An_s_old_v_want_e_val), (⟨([97] : List UInt8), ([97] : List UInt8), ([48, 49, 50, 51, 52, 53, 54, 55, 56, 57, 48, 49, 50, 51, 52, 53] : List UInt8), ([48, 49, 50, 51, 52, 53, 54, 55, 56, 57, 48, 49, 50, 51, 52, 53] : List UInt8), 0, ([] : List UInt8)⟩ : An_s_old_v_want_e_val), (⟨([97] : List UInt8), ([97] : List UInt8), ([] : List UInt8), ([] : List UInt8), 0, ([] : List UInt8)⟩ : An_s_old_v_want_e_val), (⟨([97] : List UInt8), ([97, 98] : List UInt8), ([98] : List UInt8), ([97] : List UInt8), 2, ([97] : List UInt8)⟩ : An_s_old_v_want_e_val), (⟨([0] : List UInt8), ([0] : List UInt8), ([255] : List UInt8), ([255] : List UInt8), 0, ([] : List UInt8)⟩ : An_s_old_v_want_e_val)] : List An_s_old_v_want_e_val).length : Int)) fun t_7 =>
  Option.bind (ix ([(⟨([] : List UInt8), ([] : List UInt8), ([] : List UInt8), ([] : List UInt8), 0, ([] : List UInt8)⟩ : An_s_old_v_want_e_val), (⟨([97] : List UInt8), ([97] : List UInt8), ([98] : List UInt8), ([98] : List UInt8), 0, ([] : List UInt8)⟩ : An_s_old_v_want_e_val), (⟨([97] : List UInt8), ([] : List UInt8), ([98] : List UInt8), ([97] : List UInt8), 2, ([97] : List UInt8)⟩ : An_s_old_v_want_e_val), (⟨([] : List UInt8), ([97] : List UInt8), ([98] : List UInt8), ([] : List UInt8), 2, ([] : List UInt8)⟩ : An_s_old_v_want_e_val), (⟨([97] : List UInt8), ([97] : List UInt8), ([48, 49, 50, 51, 52, 53, 54, 55, 56, 57, 48, 49, 50, 51, 52, 53, 54] : List UInt8), ([97] : List UInt8), 1, ([] : List UInt8)⟩ : An_s_old_v_want_e_val), (⟨([97] : List UInt8), ([120] : List UInt8), ([48, 49, 50, 51, 52, 53, 54, 55, 56, 57, 48, 49, 50, 51, 52, 53, 54] : List UInt8), ([97] : List UInt8), 1, ([] : List UInt8)⟩ : An_s_old_v_want_e_val), (⟨([97] : List UInt8), ([97] : List UInt8), ([48, 49, 50, 51, 52, 53, 54, 55, 56, 57, 48, 49, 50, 51, 52, 53] : List UInt8), ([48, 49, 50, 51, 52, 53, 54, 55, 56, 57, 48, 49, 50, 51, 52, 53] : List UInt8), 0, ([] : List UInt8)⟩ : An_s_old_v_want_e_val), (⟨([97] : List UInt8), ([97] : List UInt8), ([] : List UInt8), ([] : List UInt8), 0, ([] : List UInt8)⟩ : An_s_old_v_want_e_val), (⟨([97] : List UInt8), ([97, 98] : List UInt8), ([98] : List UInt8), ([97] : List UInt8), 2, ([97] : List UInt8)⟩ : An_s_old_v_want_e_val), (⟨([0] : List UInt8), ([0] : List UInt8), ([255] : List UInt8), ([255] : List UInt8), 0, ([] : List UInt8)⟩ : An_s_old_v_want_e_val)] : List An_s_old_v_want_e_val) t_7) fun t_8 =>
  Option.bind (must (t_8.s.length ≤ 9223372036854775807)) fun u_16 =>
  Option.bind (must (t_8.old.length ≤ 9223372036854775807)) fun u_22 =>
  Option.bind (must (t_8.v.length ≤ 9223372036854775807)) fun u_28 =>
  Option.bind (regs_Cas.f t_8.s t_8.old t_8.v) fun t_34 =>
  Option.bind (regs_Write.f t_8.s t_8.v) fun t_59 =>
  if (t_8.v.length : Int) > 16 then (
  if t_59.2.Err = 1 then (
  if t_59.1 = t_8.s then (
  if (t_8.v.length : Int) ≤ 16 then (
  if t_59.2.Err = 0 then (
  if t_59.1 = t_8.v then (
  hocketlaw4_RegsForms.j_79 t_34 t_8 ((t_59.2.Val.length : Int) != 0))
  else (
  hocketlaw4_RegsForms.j_79 t_34 t_8 true))
  else (
  hocketlaw4_RegsForms.j_79 t_34 t_8 true))
  else (
  hocketlaw4_RegsForms.j_79 t_34 t_8 false))
  else (
  hocketlaw4_RegsForms.j_79 t_34 t_8 true))
  else (
  hocketlaw4_RegsForms.j_79 t_34 t_8 true))
  else (
  if (t_8.v.length : Int) ≤ 16 then (
  if t_59.2.Err = 0 then (
  if t_59.1 = t_8.v then (
  hocketlaw4_RegsForms.j_79 t_34 t_8 ((t_59.2.Val.length : Int) != 0))
  else (
  hocketlaw4_RegsForms.j_79 t_34 t_8 true))
  else (
  hocketlaw4_RegsForms.j_79 t_34 t_8 true))
  else (
  hocketlaw4_RegsForms.j_79 t_34 t_8 false))

def hocketref4_own.f (x0 : List UInt8) : Option ((List UInt8)) :=
  Option.bind (app 140737488355328 ([] : List UInt8) x0) fun t_7 =>
  some t_7

def hocketref4_bad.f (x0 : Int) : Option (api_Result) :=
  some (⟨x0, ([] : List UInt8), 0⟩ : api_Result)

def hocketref4_Write.f (x0 : List UInt8) (x1 : List UInt8) : Option ((List UInt8) × api_Result) :=
  if (x1.length : Int) > 16 then (
  Option.bind (hocketref4_own.f x0) fun t_5 =>
  Option.bind (hocketref4_bad.f 1) fun t_13 =>
  some (t_5, t_13))
  else (
  Option.bind (hocketref4_own.f x1) fun t_22 =>
  some (t_22, (⟨0, ([] : List UInt8), 0⟩ : api_Result)))

def hocketref4_Cas.f (x0 : List UInt8) (x1 : List UInt8) (x2 : List UInt8) : Option ((List UInt8) × api_Result) :=
  if (x2.length : Int) > 16 then (
  Option.bind (hocketref4_own.f x0) fun t_5 =>
  Option.bind (hocketref4_bad.f 1) fun t_13 =>
  some (t_5, t_13))
  else (
  if x0 = x1 then (
  Option.bind (hocketref4_own.f x2) fun t_24 =>
  some (t_24, (⟨0, ([] : List UInt8), 0⟩ : api_Result)))
  else (
  Option.bind (hocketref4_own.f x0) fun t_34 =>
  Option.bind (hocketref4_own.f x0) fun t_42 =>
  some (t_34, (⟨2, t_42, 0⟩ : api_Result))))

def hocketref4_SameResult.f (x0 : api_Result) (x1 : api_Result) : Option (Bool) :=
  if x0.Err = x1.Err then (
  if x0.Val = x1.Val then (
  some (x0.N == x1.N))
  else (
  some false))
  else (
  some false)

def hocketref4_Read.f (x0 : List UInt8) : Option (api_Result) :=
  Option.bind (hocketref4_own.f x0) fun t_3 =>
  some (⟨0, t_3, 0⟩ : api_Result)

def hocketlaw4_RegsTells.j_18 (x0 : List UInt8) (x2 : List UInt8) (x_14 : List UInt8) : Option (Unit) :=
  Option.bind (regs_Write.f x0 x2) fun t_19 =>
  Option.bind (hocketref4_Write.f x0 x2) fun t_34 =>
  Option.bind (regs_Cas.f x0 x_14 x2) fun t_49 =>
  Option.bind (hocketref4_Cas.f x0 x_14 x2) fun t_64 =>
  if t_19.1 = t_34.1 then (
  Option.bind (hocketref4_SameResult.f t_19.2 t_34.2) fun t_81 =>
  if t_81 = true then (
  if t_49.1 = t_64.1 then (
  Option.bind (hocketref4_SameResult.f t_49.2 t_64.2) fun t_87 =>
  if t_87 = true then (
  Option.bind (regs_Read.f x0) fun t_92 =>
  Option.bind (hocketref4_Read.f x0) fun t_100 =>
  Option.bind (hocketref4_SameResult.f t_92 t_100) fun t_108 =>
  if t_108 = true then (
  Option.bind (hocketlaw4_awake.f) fun t_113 =>
  some ())
  else (
  none))
  else (
  none))
  else (
  none))
  else (
  none))
  else (
  none)
def hocketlaw4_RegsTells.j_6 (x3 : Bool) (x0 : List UInt8) (x2 : List UInt8) (x1 : List UInt8) (x_4 : Bool) : Option (Unit) :=
  if x_4 = true then (
  Option.bind (hocketlaw4_awake.f) fun t_8 =>
  some ())
  else (
  if x3 = true then (
  Option.bind (app 140737488355328 ([] : List UInt8) x0) fun t_124 =>
  hocketlaw4_RegsTells.j_18 x0 x2 t_124)
  else (
  hocketlaw4_RegsTells.j_18 x0 x2 x1))
def hocketlaw4_RegsTells.f (x0 : List UInt8) (x1 : List UInt8) (x2 : List UInt8) (x3 : Bool) : Option (Unit) :=
  if (x0.length : Int) > 60 then (
  hocketlaw4_RegsTells.j_6 x3 x0 x2 x1 true)
  else (
  if (x1.length : Int) > 60 then (
  hocketlaw4_RegsTells.j_6 x3 x0 x2 x1 true)
  else (
  hocketlaw4_RegsTells.j_6 x3 x0 x2 x1 (decide ((x2.length : Int) > 60))))

def hocketlaw4_RegsOnce.j_73 (K : Nat) (t_2 : List UInt8) : Option (Unit) :=
  if t_2 = t_2 then (
  Option.bind (regs_Read.f t_2) fun t_76 =>
  if t_76.Val = t_2 then (
  Option.bind (hocketlaw4_awake.f) fun t_85 =>
  some ())
  else (
  none))
  else (
  none)
def hocketlaw4_RegsOnce.b_96 (K : Nat) (t_11 : (List UInt8) × api_Result) (ex_96 : Unit → Option (Unit)) (again_96 : (List UInt8) × Int → Option (Unit)) (x_90 : List UInt8) (x_95 : Int) : Option (Unit) :=
  if x_95 < (t_11.1.length : Int) then (
  Option.bind (ix x_90 x_95) fun t_100 =>
  Option.bind (ix x_90 x_95) fun t_105 =>
  again_96 ((x_90.set (x_95).toNat (toU8 ((t_100.toNat : Int) + ((1 : UInt8).toNat : Int)))), w64 (x_95 + 1)))
  else (
  ex_96 ())
def hocketlaw4_RegsOnce.l_96 (K : Nat) (t_11 : (List UInt8) × api_Result) (ex_96 : Unit → Option (Unit)) : Nat → (List UInt8) × Int → Option (Unit) :=
  iter fun again v => hocketlaw4_RegsOnce.b_96 K t_11 ex_96 again v.1 v.2
def hocketlaw4_RegsOnce.j_69 (K : Nat) (t_11 : (List UInt8) × api_Result) (t_2 : List UInt8) : Option (Unit) :=
  hocketlaw4_RegsOnce.l_96 K t_11 (fun v => hocketlaw4_RegsOnce.j_73 K t_2) K (t_11.1, 0)
def hocketlaw4_RegsOnce.b_119 (K : Nat) (t_55 : api_Result) (ex_119 : Unit → Option (Unit)) (again_119 : Int × (List UInt8) → Option (Unit)) (x_113 : Int) (x_114 : List UInt8) : Option (Unit) :=
  if x_113 < (t_55.Val.length : Int) then (
  Option.bind (ix x_114 x_113) fun t_123 =>
  Option.bind (ix x_114 x_113) fun t_128 =>
  again_119 (w64 (x_113 + 1), (x_114.set (x_113).toNat (toU8 ((t_123.toNat : Int) + ((1 : UInt8).toNat : Int))))))
  else (
  ex_119 ())
def hocketlaw4_RegsOnce.l_119 (K : Nat) (t_55 : api_Result) (ex_119 : Unit → Option (Unit)) : Nat → Int × (List UInt8) → Option (Unit) :=
  iter fun again v => hocketlaw4_RegsOnce.b_119 K t_55 ex_119 again v.1 v.2
def hocketlaw4_RegsOnce.j_53 (K : Nat) (t_2 : List UInt8) (t_11 : (List UInt8) × api_Result) (x_51 : Bool) : Option (Unit) :=
  if x_51 = true then (
  none)
  else (
  Option.bind (regs_Read.f t_2) fun t_55 =>
  hocketlaw4_RegsOnce.l_119 K t_55 (fun v => hocketlaw4_RegsOnce.j_69 K t_11 t_2) K (0, t_55.Val))
def hocketlaw4_RegsOnce.j_46 (K : Nat) (t_26 : (List UInt8) × api_Result) (t_5 : List UInt8) (t_2 : List UInt8) (t_8 : List UInt8) (t_11 : (List UInt8) × api_Result) (x_44 : Bool) : Option (Unit) :=
  if x_44 = true then (
  none)
  else (
  if (t_26.2.Err == 0) = (t_5 == t_2) then (
  if t_26.2.Err = 0 then (
  if t_26.1 = t_8 then (
  hocketlaw4_RegsOnce.j_53 K t_2 t_11 false)
  else (
  hocketlaw4_RegsOnce.j_53 K t_2 t_11 true))
  else (
  if t_26.1 = t_5 then (
  hocketlaw4_RegsOnce.j_53 K t_2 t_11 (!(t_26.2.Val == t_5)))
  else (
  hocketlaw4_RegsOnce.j_53 K t_2 t_11 true)))
  else (
  hocketlaw4_RegsOnce.j_53 K t_2 t_11 true))
def hocketlaw4_RegsOnce.f (K : Nat) (x0 : List UInt8) (x1 : List UInt8) (x2 : List UInt8) : Option (Unit) :=
  Option.bind (cut x0 0 (mn (x0.length : Int) 16)) fun t_2 =>
  Option.bind (cut x1 0 (mn (x1.length : Int) 16)) fun t_5 =>
  Option.bind (cut x2 0 (mn (x2.length : Int) 16)) fun t_8 =>
  Option.bind (regs_Cas.f t_2 t_2 t_5) fun t_11 =>
  Option.bind (regs_Cas.f t_11.1 t_2 t_8) fun t_26 =>
  if t_11.2.Err = 0 then (
  hocketlaw4_RegsOnce.j_46 K t_26 t_5 t_2 t_8 t_11 (!(t_11.1 == t_5)))
  else (
  hocketlaw4_RegsOnce.j_46 K t_26 t_5 t_2 t_8 t_11 true)



def fifo_Still.j_9 (K : Nat) (x_3 : List (List UInt8)) : Option ((List (List UInt8))) :=
  some x_3
def fifo_Still.b_20 (K : Nat) (x0 : List (List UInt8)) (ex_20 : (List (List UInt8)) → Option ((List (List UInt8)))) (again_20 : (List (List UInt8)) × Int → Option ((List (List UInt8)))) (x_14 : List (List UInt8)) (x_19 : Int) : Option ((List (List UInt8))) :=
  if x_19 < (x0.length : Int) then (
  Option.bind (ix x0 x_19) fun t_25 =>
  Option.bind (slices_Clone_sbyte_byte.f t_25) fun t_32 =>
  Option.bind (app 5864062014805 x_14 ([t_32] : List (List UInt8))) fun t_47 =>
  again_20 (t_47, w64 (x_19 + 1)))
  else (
  ex_20 x_14)
def fifo_Still.l_20 (K : Nat) (x0 : List (List UInt8)) (ex_20 : (List (List UInt8)) → Option ((List (List UInt8)))) : Nat → (List (List UInt8)) × Int → Option ((List (List UInt8))) :=
  iter fun again v => fifo_Still.b_20 K x0 ex_20 again v.1 v.2
def fifo_Still.f (K : Nat) (x0 : List (List UInt8)) : Option ((List (List UInt8))) :=
  fifo_Still.l_20 K x0 (fun v => fifo_Still.j_9 K v) K (([] : List (List UInt8)), 0)

def fifo_Push.f (K : Nat) (x0 : List (List UInt8)) (x1 : List UInt8) : Option ((List (List UInt8)) × api_Result) :=
  Option.bind (fifo_Still.f K x0) fun t_3 =>
  if (x1.length : Int) > 16 then (
  some (t_3, (⟨1, ([] : List UInt8), 0⟩ : api_Result)))
  else (
  if (t_3.length : Int) ≥ 8 then (
  some (t_3, (⟨3, ([] : List UInt8), 0⟩ : api_Result)))
  else (
  Option.bind (slices_Clone_sbyte_byte.f x1) fun t_18 =>
  Option.bind (app 5864062014805 t_3 ([t_18] : List (List UInt8))) fun t_33 =>
  some (t_33, (⟨0, ([] : List UInt8), w64 ((t_3.length : Int) + 1)⟩ : api_Result))))

def hocketref4_SameRows.j_6 (K : Nat) : Option (Bool) :=
  some true
def hocketref4_SameRows.b_9 (K : Nat) (x0 : List (List UInt8)) (x1 : List (List UInt8)) (ex_9 : Unit → Option (Bool)) (again_9 : Int → Option (Bool)) (x_8 : Int) : Option (Bool) :=
  if x_8 < (x0.length : Int) then (
  Option.bind (ix x0 x_8) fun t_15 =>
  Option.bind (ix x1 x_8) fun t_22 =>
  if t_15 = t_22 then (
  again_9 (w64 (x_8 + 1)))
  else (
  some false))
  else (
  ex_9 ())
def hocketref4_SameRows.l_9 (K : Nat) (x0 : List (List UInt8)) (x1 : List (List UInt8)) (ex_9 : Unit → Option (Bool)) : Nat → Int → Option (Bool) :=
  iter fun again v => hocketref4_SameRows.b_9 K x0 x1 ex_9 again v
def hocketref4_SameRows.f (K : Nat) (x0 : List (List UInt8)) (x1 : List (List UInt8)) : Option (Bool) :=
  if (x0.length : Int) = (x1.length : Int) then (
  hocketref4_SameRows.l_9 K x0 x1 (fun v => hocketref4_SameRows.j_6 K) K 0)
  else (
  some false)

def fifo_Pop.f (K : Nat) (x0 : List (List UInt8)) : Option ((List (List UInt8)) × api_Result) :=
  Option.bind (fifo_Still.f K x0) fun t_3 =>
  if (t_3.length : Int) = 0 then (
  some (t_3, (⟨4, ([] : List UInt8), 0⟩ : api_Result)))
  else (
  Option.bind (cut t_3 1 (t_3.length : Int)) fun t_17 =>
  Option.bind (ix t_3 0) fun t_20 =>
  some (t_17, (⟨0, t_20, 0⟩ : api_Result)))

def hocketlaw5_awake.f (K : Nat) : Option (Unit) :=
  Option.bind (fifo_Push.f K ([] : List (List UInt8)) ([(97 : UInt8)] : List UInt8)) fun t_11 =>
  Option.bind (fifo_Push.f K t_11.1 ([(98 : UInt8)] : List UInt8)) fun t_36 =>
  Option.bind (fifo_Pop.f K t_36.1) fun t_51 =>
  Option.bind (fifo_Pop.f K ([] : List (List UInt8))) fun t_62 =>
  if t_11.2.N = 1 then (
  if t_36.2.N = 2 then (
  if (t_36.1.length : Int) = 2 then (
  if (t_51.1.length : Int) = 1 then (
  if t_51.2.Val = ([97] : List UInt8) then (
  if t_62.2.Err = 4 then (
  some ())
  else (
  none))
  else (
  none))
  else (
  none))
  else (
  none))
  else (
  none))
  else (
  none)

def hocketlaw5_FifoForms.j_54 (K : Nat) (x_50 : List (List UInt8)) : Option (Unit) :=
  if (x_50.length : Int) = 0 then (
  Option.bind (hocketlaw5_awake.f K) fun t_57 =>
  some ())
  else (
  none)
def hocketlaw5_FifoForms.j_87 (K : Nat) (again_66 : (List (List UInt8)) × Int → Option (Unit)) (t_71 : (List (List UInt8)) × api_Result) (x_65 : Int) (x_85 : Bool) : Option (Unit) :=
  if x_85 = true then (
  none)
  else (
  again_66 (t_71.1, w64 (x_65 + 1)))
def hocketlaw5_FifoForms.b_66 (K : Nat) (x0 : Int) (ex_66 : (List (List UInt8)) → Option (Unit)) (again_66 : (List (List UInt8)) × Int → Option (Unit)) (x_62 : List (List UInt8)) (x_65 : Int) : Option (Unit) :=
  if x_65 < (mn (band .i64 x0 15) 8) then (
  Option.bind (fifo_Pop.f K x_62) fun t_71 =>
  if (t_71.2.Val.length : Int) = 1 then (
  Option.bind (ix t_71.2.Val 0) fun t_90 =>
  if (t_90.toNat : Int) = x_65 then (
  hocketlaw5_FifoForms.j_87 K again_66 t_71 x_65 (t_71.2.N != 0))
  else (
  hocketlaw5_FifoForms.j_87 K again_66 t_71 x_65 true))
  else (
  hocketlaw5_FifoForms.j_87 K again_66 t_71 x_65 true))
  else (
  ex_66 x_62)
def hocketlaw5_FifoForms.l_66 (K : Nat) (x0 : Int) (ex_66 : (List (List UInt8)) → Option (Unit)) : Nat → (List (List UInt8)) × Int → Option (Unit) :=
  iter fun again v => hocketlaw5_FifoForms.b_66 K x0 ex_66 again v.1 v.2
def hocketlaw5_FifoForms.j_46 (K : Nat) (x0 : Int) (x_3 : List (List UInt8)) (x_44 : Bool) : Option (Unit) :=
  if x_44 = true then (
  none)
  else (
  hocketlaw5_FifoForms.l_66 K x0 (fun v => hocketlaw5_FifoForms.j_54 K v) K (x_3, 0))
def hocketlaw5_FifoForms.j_40 (K : Nat) (t_16 : (List (List UInt8)) × api_Result) (x0 : Int) (x_3 : List (List UInt8)) (x_38 : Int) : Option (Unit) :=
  if t_16.2.Err = x_38 then (
  if x_38 = 0 then (
  hocketlaw5_FifoForms.j_46 K x0 x_3 ((t_16.1.length : Int) != (w64 ((band .i64 x0 15) + 1))))
  else (
  Option.bind (hocketref4_SameRows.f K x_3 t_16.1) fun t_98 =>
  if t_98 = true then (
  hocketlaw5_FifoForms.j_46 K x0 x_3 false)
  else (
  hocketlaw5_FifoForms.j_46 K x0 x_3 true)))
  else (
  hocketlaw5_FifoForms.j_46 K x0 x_3 true)
def hocketlaw5_FifoForms.j_35 (K : Nat) (x1 : Int) (t_16 : (List (List UInt8)) × api_Result) (x0 : Int) (x_3 : List (List UInt8)) (x_33 : Int) : Option (Unit) :=
  if (band .i64 x1 31) > 16 then (
  hocketlaw5_FifoForms.j_40 K t_16 x0 x_3 1)
  else (
  hocketlaw5_FifoForms.j_40 K t_16 x0 x_3 x_33)
def hocketlaw5_FifoForms.j_9 (K : Nat) (x1 : Int) (x0 : Int) (x_3 : List (List UInt8)) : Option (Unit) :=
  Option.bind (mk 140737488355328 (band .i64 x1 31) (0 : UInt8)) fun t_10 =>
  Option.bind (fifo_Push.f K x_3 t_10) fun t_16 =>
  if (band .i64 x0 15) ≥ 8 then (
  hocketlaw5_FifoForms.j_35 K x1 t_16 x0 x_3 3)
  else (
  hocketlaw5_FifoForms.j_35 K x1 t_16 x0 x_3 0)
def hocketlaw5_FifoForms.j_143 (K : Nat) (again_112 : (List (List UInt8)) × Int → Option (Unit)) (t_123 : (List (List UInt8)) × api_Result) (x_111 : Int) (x_141 : Bool) : Option (Unit) :=
  if x_141 = true then (
  none)
  else (
  again_112 (t_123.1, w64 (x_111 + 1)))
def hocketlaw5_FifoForms.b_112 (K : Nat) (x0 : Int) (ex_112 : (List (List UInt8)) → Option (Unit)) (again_112 : (List (List UInt8)) × Int → Option (Unit)) (x_106 : List (List UInt8)) (x_111 : Int) : Option (Unit) :=
  if x_111 < (band .i64 x0 15) then (
  Option.bind (fifo_Push.f K x_106 ([toU8 x_111] : List UInt8)) fun t_123 =>
  if (t_123.2.Err == 0) = (decide (x_111 < 8)) then (
  if t_123.2.Err = 0 then (
  if t_123.2.N = (w64 (x_111 + 1)) then (
  hocketlaw5_FifoForms.j_143 K again_112 t_123 x_111 false)
  else (
  hocketlaw5_FifoForms.j_143 K again_112 t_123 x_111 true))
  else (
  if t_123.2.Err = 3 then (
  hocketlaw5_FifoForms.j_143 K again_112 t_123 x_111 (t_123.2.N != 0))
  else (
  hocketlaw5_FifoForms.j_143 K again_112 t_123 x_111 true)))
  else (
  hocketlaw5_FifoForms.j_143 K again_112 t_123 x_111 true))
  else (
  ex_112 x_106)
def hocketlaw5_FifoForms.l_112 (K : Nat) (x0 : Int) (ex_112 : (List (List UInt8)) → Option (Unit)) : Nat → (List (List UInt8)) × Int → Option (Unit) :=
  iter fun again v => hocketlaw5_FifoForms.b_112 K x0 ex_112 again v.1 v.2
def hocketlaw5_FifoForms.f (K : Nat) (x0 : Int) (x1 : Int) : Option (Unit) :=
  hocketlaw5_FifoForms.l_112 K x0 (fun v => hocketlaw5_FifoForms.j_9 K x1 x0 v) K (([] : List (List UInt8)), 0)

def hocketref4_rows.j_9 (K : Nat) (x_3 : List (List UInt8)) : Option ((List (List UInt8))) :=
  some x_3
def hocketref4_rows.b_17 (K : Nat) (x0 : List (List UInt8)) (ex_17 : (List (List UInt8)) → Option ((List (List UInt8)))) (again_17 : (List (List UInt8)) × Int → Option ((List (List UInt8)))) (x_11 : List (List UInt8)) (x_16 : Int) : Option ((List (List UInt8))) :=
  if x_16 < (x0.length : Int) then (
  Option.bind (ix x0 x_16) fun t_22 =>
  Option.bind (hocketref4_own.f t_22) fun t_29 =>
  Option.bind (app 5864062014805 x_11 ([t_29] : List (List UInt8))) fun t_44 =>
  again_17 (t_44, w64 (x_16 + 1)))
  else (
  ex_17 x_11)
def hocketref4_rows.l_17 (K : Nat) (x0 : List (List UInt8)) (ex_17 : (List (List UInt8)) → Option ((List (List UInt8)))) : Nat → (List (List UInt8)) × Int → Option ((List (List UInt8))) :=
  iter fun again v => hocketref4_rows.b_17 K x0 ex_17 again v.1 v.2
def hocketref4_rows.f (K : Nat) (x0 : List (List UInt8)) : Option ((List (List UInt8))) :=
  hocketref4_rows.l_17 K x0 (fun v => hocketref4_rows.j_9 K v) K (([] : List (List UInt8)), 0)

def hocketref4_Push.f (K : Nat) (x0 : List (List UInt8)) (x1 : List UInt8) : Option ((List (List UInt8)) × api_Result) :=
  if (x1.length : Int) > 16 then (
  Option.bind (hocketref4_rows.f K x0) fun t_5 =>
  Option.bind (hocketref4_bad.f 1) fun t_13 =>
  some (t_5, t_13))
  else (
  if (x0.length : Int) ≥ 8 then (
  Option.bind (hocketref4_rows.f K x0) fun t_24 =>
  Option.bind (hocketref4_bad.f 3) fun t_32 =>
  some (t_24, t_32))
  else (
  Option.bind (hocketref4_rows.f K x0) fun t_41 =>
  Option.bind (hocketref4_own.f x1) fun t_49 =>
  Option.bind (app 5864062014805 t_41 ([t_49] : List (List UInt8))) fun t_64 =>
  some (t_64, (⟨0, ([] : List UInt8), w64 ((x0.length : Int) + 1)⟩ : api_Result))))

def hocketref4_Pop.f (K : Nat) (x0 : List (List UInt8)) : Option ((List (List UInt8)) × api_Result) :=
  if (x0.length : Int) = 0 then (
  Option.bind (hocketref4_bad.f 4) fun t_5 =>
  some (([] : List (List UInt8)), t_5))
  else (
  Option.bind (cut x0 1 (x0.length : Int)) fun t_16 =>
  Option.bind (ix x0 0) fun t_19 =>
  Option.bind (hocketref4_rows.f K t_16) fun t_26 =>
  Option.bind (hocketref4_own.f t_19) fun t_34 =>
  some (t_26, (⟨0, t_34, 0⟩ : api_Result)))

def hocketlaw5_FifoPlays.j_18 (K : Nat) : Option (Unit) :=
  Option.bind (hocketlaw5_awake.f K) fun t_19 =>
  some ()
def hocketlaw5_FifoPlays.j_78 (K : Nat) (again_31 : (List (List UInt8)) × (List (List UInt8)) × Int → Option (Unit)) (x_52 : List (List UInt8)) (x_55 : List (List UInt8)) (x_30 : Int) (x_76 : Bool) : Option (Unit) :=
  if x_76 = true then (
  none)
  else (
  again_31 (x_52, x_55, w64 (x_30 + 1)))
def hocketlaw5_FifoPlays.j_73 (K : Nat) (again_31 : (List (List UInt8)) × (List (List UInt8)) × Int → Option (Unit)) (x_30 : Int) (x_52 : List (List UInt8)) (x_55 : List (List UInt8)) (x_60 : Int) (x_61 : List UInt8) (x_64 : Int) (x_65 : Int) (x_66 : List UInt8) (x_71 : Int) : Option (Unit) :=
  Option.bind (hocketref4_SameResult.f (⟨x_60, x_61, x_64⟩ : api_Result) (⟨x_65, x_66, x_71⟩ : api_Result)) fun t_81 =>
  if t_81 = true then (
  Option.bind (hocketref4_SameRows.f K x_52 x_55) fun t_86 =>
  hocketlaw5_FifoPlays.j_78 K again_31 x_52 x_55 x_30 (!t_86))
  else (
  hocketlaw5_FifoPlays.j_78 K again_31 x_52 x_55 x_30 true)
def hocketlaw5_FifoPlays.j_50 (K : Nat) (x0 : List Int) (x_30 : Int) (x1 : List (List UInt8)) (x_24 : List (List UInt8)) (x_27 : List (List UInt8)) (again_31 : (List (List UInt8)) × (List (List UInt8)) × Int → Option (Unit)) (x_48 : Bool) : Option (Unit) :=
  if x_48 = true then (
  Option.bind (ix x0 x_30) fun t_91 =>
  Option.bind (rem (band .i64 (shr .i64 t_91 2) 255) (x1.length : Int)) fun t_96 =>
  Option.bind (ix x1 t_96) fun t_97 =>
  Option.bind (fifo_Push.f K x_24 t_97) fun t_104 =>
  Option.bind (hocketref4_Push.f K x_27 t_97) fun t_117 =>
  hocketlaw5_FifoPlays.j_73 K again_31 x_30 t_104.1 t_117.1 t_104.2.Err t_104.2.Val t_104.2.N t_117.2.Err t_117.2.Val t_117.2.N)
  else (
  Option.bind (fifo_Pop.f K x_24) fun t_132 =>
  Option.bind (hocketref4_Pop.f K x_27) fun t_141 =>
  hocketlaw5_FifoPlays.j_73 K again_31 x_30 t_132.1 t_141.1 t_132.2.Err t_132.2.Val t_132.2.N t_141.2.Err t_141.2.Val t_141.2.N)
def hocketlaw5_FifoPlays.j_38 (K : Nat) (x0 : List Int) (x_30 : Int) (x1 : List (List UInt8)) (x_24 : List (List UInt8)) (x_27 : List (List UInt8)) (again_31 : (List (List UInt8)) × (List (List UInt8)) × Int → Option (Unit)) (ex_31 : Unit → Option (Unit)) (x_36 : Bool) : Option (Unit) :=
  if x_36 = true then (
  Option.bind (ix x0 x_30) fun t_154 =>
  if (band .i64 t_154 3) < 2 then (
  hocketlaw5_FifoPlays.j_50 K x0 x_30 x1 x_24 x_27 again_31 (decide ((x1.length : Int) > 0)))
  else (
  hocketlaw5_FifoPlays.j_50 K x0 x_30 x1 x_24 x_27 again_31 false))
  else (
  ex_31 ())
def hocketlaw5_FifoPlays.b_31 (K : Nat) (x0 : List Int) (x1 : List (List UInt8)) (ex_31 : Unit → Option (Unit)) (again_31 : (List (List UInt8)) × (List (List UInt8)) × Int → Option (Unit)) (x_24 : List (List UInt8)) (x_27 : List (List UInt8)) (x_30 : Int) : Option (Unit) :=
  if x_30 < (x0.length : Int) then (
  hocketlaw5_FifoPlays.j_38 K x0 x_30 x1 x_24 x_27 again_31 ex_31 (decide (x_30 < 40)))
  else (
  hocketlaw5_FifoPlays.j_38 K x0 x_30 x1 x_24 x_27 again_31 ex_31 false)
def hocketlaw5_FifoPlays.l_31 (K : Nat) (x0 : List Int) (x1 : List (List UInt8)) (ex_31 : Unit → Option (Unit)) : Nat → (List (List UInt8)) × (List (List UInt8)) × Int → Option (Unit) :=
  iter fun again v => hocketlaw5_FifoPlays.b_31 K x0 x1 ex_31 again v.1 v.2.1 v.2.2
def hocketlaw5_FifoPlays.j_14 (K : Nat) (x0 : List Int) (x1 : List (List UInt8)) (x_3 : List (List UInt8)) (x_6 : List (List UInt8)) : Option (Unit) :=
  hocketlaw5_FifoPlays.l_31 K x0 x1 (fun v => hocketlaw5_FifoPlays.j_18 K) K (x_3, x_6, 0)
def hocketlaw5_FifoPlays.b_163 (K : Nat) (x1 : List (List UInt8)) (ex_163 : Unit → Option (Unit)) (again_163 : Int → Option (Unit)) (x_162 : Int) : Option (Unit) :=
  if x_162 < (x1.length : Int) then (
  Option.bind (ix x1 x_162) fun t_168 =>
  if (t_168.length : Int) > 60 then (
  Option.bind (hocketlaw5_awake.f K) fun t_176 =>
  some ())
  else (
  again_163 (w64 (x_162 + 1))))
  else (
  ex_163 ())
def hocketlaw5_FifoPlays.l_163 (K : Nat) (x1 : List (List UInt8)) (ex_163 : Unit → Option (Unit)) : Nat → Int → Option (Unit) :=
  iter fun again v => hocketlaw5_FifoPlays.b_163 K x1 ex_163 again v
def hocketlaw5_FifoPlays.j_10 (K : Nat) (x1 : List (List UInt8)) (x0 : List Int) (x_3 : List (List UInt8)) (x_6 : List (List UInt8)) : Option (Unit) :=
  hocketlaw5_FifoPlays.l_163 K x1 (fun v => hocketlaw5_FifoPlays.j_14 K x0 x1 x_3 x_6) K 0
def hocketlaw5_FifoPlays.f (K : Nat) (x0 : List Int) (x1 : List (List UInt8)) : Option (Unit) :=
  if (x1.length : Int) ≤ 12 then (
  hocketlaw5_FifoPlays.j_10 K x1 x0 x1 x1)
  else (
  hocketlaw5_FifoPlays.j_10 K x1 x0 ([] : List (List UInt8)) ([] : List (List UInt8)))

def hocketlaw5_FifoOrder.j_49 (K : Nat) (x_45 : List (List UInt8)) : Option (Unit) :=
  if (x_45.length : Int) = 0 then (
  Option.bind (hocketlaw5_awake.f K) fun t_52 =>
  some ())
  else (
  none)
def hocketlaw5_FifoOrder.j_97 (K : Nat) (again_62 : (List (List UInt8)) × Int × Int → Option (Unit)) (t_81 : (List (List UInt8)) × api_Result) (x_60 : Int) (x_61 : Int) (x_95 : Bool) : Option (Unit) :=
  if x_95 = true then (
  none)
  else (
  again_62 (t_81.1, w64 (x_60 + 1), w64 (x_61 + 1)))
def hocketlaw5_FifoOrder.j_70 (K : Nat) (x0 : List (List UInt8)) (x_61 : Int) (again_62 : (List (List UInt8)) × Int × Int → Option (Unit)) (x_57 : List (List UInt8)) (x_60 : Int) (x_8 : Int) (ex_62 : (List (List UInt8)) → Option (Unit)) (x_68 : Bool) : Option (Unit) :=
  if x_68 = true then (
  Option.bind (ix x0 x_61) fun t_73 =>
  if (t_73.length : Int) > 16 then (
  again_62 (x_57, x_60, w64 (x_61 + 1)))
  else (
  Option.bind (fifo_Pop.f K x_57) fun t_81 =>
  if t_81.2.Err = 0 then (
  Option.bind (ix x0 x_61) fun t_101 =>
  if t_81.2.Val = t_101 then (
  hocketlaw5_FifoOrder.j_97 K again_62 t_81 x_60 x_61 ((x_57.length : Int) != (w64 (x_8 - x_60))))
  else (
  hocketlaw5_FifoOrder.j_97 K again_62 t_81 x_60 x_61 true))
  else (
  hocketlaw5_FifoOrder.j_97 K again_62 t_81 x_60 x_61 true)))
  else (
  ex_62 x_57)
def hocketlaw5_FifoOrder.b_62 (K : Nat) (x0 : List (List UInt8)) (x_8 : Int) (ex_62 : (List (List UInt8)) → Option (Unit)) (again_62 : (List (List UInt8)) × Int × Int → Option (Unit)) (x_57 : List (List UInt8)) (x_60 : Int) (x_61 : Int) : Option (Unit) :=
  if x_61 < (x0.length : Int) then (
  hocketlaw5_FifoOrder.j_70 K x0 x_61 again_62 x_57 x_60 x_8 ex_62 (decide (x_60 < x_8)))
  else (
  hocketlaw5_FifoOrder.j_70 K x0 x_61 again_62 x_57 x_60 x_8 ex_62 false)
def hocketlaw5_FifoOrder.l_62 (K : Nat) (x0 : List (List UInt8)) (x_8 : Int) (ex_62 : (List (List UInt8)) → Option (Unit)) : Nat → (List (List UInt8)) × Int × Int → Option (Unit) :=
  iter fun again v => hocketlaw5_FifoOrder.b_62 K x0 x_8 ex_62 again v.1 v.2.1 v.2.2
def hocketlaw5_FifoOrder.j_41 (K : Nat) (x0 : List (List UInt8)) (x_8 : Int) (x_3 : List (List UInt8)) (x_39 : Bool) : Option (Unit) :=
  if x_39 = true then (
  none)
  else (
  hocketlaw5_FifoOrder.l_62 K x0 x_8 (fun v => hocketlaw5_FifoOrder.j_49 K v) K (x_3, 0, 0))
def hocketlaw5_FifoOrder.j_10 (K : Nat) (x0 : List (List UInt8)) (x_3 : List (List UInt8)) (x_8 : Int) : Option (Unit) :=
  Option.bind (fifo_Push.f K x_3 ([(120 : UInt8)] : List UInt8)) fun t_22 =>
  if x_8 = 8 then (
  hocketlaw5_FifoOrder.j_41 K x0 x_8 x_3 (t_22.2.Err != 3))
  else (
  hocketlaw5_FifoOrder.j_41 K x0 x_8 x_3 false)
def hocketlaw5_FifoOrder.j_165 (K : Nat) (again_119 : (List (List UInt8)) × Int × Int → Option (Unit)) (t_145 : (List (List UInt8)) × api_Result) (x_117 : Int) (x_118 : Int) (x_163 : Bool) : Option (Unit) :=
  if x_163 = true then (
  none)
  else (
  again_119 (t_145.1, w64 (x_117 + 1), w64 (x_118 + 1)))
def hocketlaw5_FifoOrder.j_127 (K : Nat) (x0 : List (List UInt8)) (x_118 : Int) (again_119 : (List (List UInt8)) × Int × Int → Option (Unit)) (x_112 : List (List UInt8)) (x_117 : Int) (ex_119 : (List (List UInt8)) × Int → Option (Unit)) (x_125 : Bool) : Option (Unit) :=
  if x_125 = true then (
  Option.bind (ix x0 x_118) fun t_130 =>
  if (t_130.length : Int) > 16 then (
  again_119 (x_112, x_117, w64 (x_118 + 1)))
  else (
  Option.bind (ix x0 x_118) fun t_138 =>
  Option.bind (fifo_Push.f K x_112 t_138) fun t_145 =>
  if t_145.2.Err = 0 then (
  if t_145.2.N = (w64 (x_117 + 1)) then (
  if (t_145.1.length : Int) = (w64 (x_117 + 1)) then (
  hocketlaw5_FifoOrder.j_165 K again_119 t_145 x_117 x_118 ((x_112.length : Int) != x_117))
  else (
  hocketlaw5_FifoOrder.j_165 K again_119 t_145 x_117 x_118 true))
  else (
  hocketlaw5_FifoOrder.j_165 K again_119 t_145 x_117 x_118 true))
  else (
  hocketlaw5_FifoOrder.j_165 K again_119 t_145 x_117 x_118 true)))
  else (
  ex_119 (x_112, x_117))
def hocketlaw5_FifoOrder.b_119 (K : Nat) (x0 : List (List UInt8)) (ex_119 : (List (List UInt8)) × Int → Option (Unit)) (again_119 : (List (List UInt8)) × Int × Int → Option (Unit)) (x_112 : List (List UInt8)) (x_117 : Int) (x_118 : Int) : Option (Unit) :=
  if x_118 < (x0.length : Int) then (
  hocketlaw5_FifoOrder.j_127 K x0 x_118 again_119 x_112 x_117 ex_119 (decide (x_117 < 8)))
  else (
  hocketlaw5_FifoOrder.j_127 K x0 x_118 again_119 x_112 x_117 ex_119 false)
def hocketlaw5_FifoOrder.l_119 (K : Nat) (x0 : List (List UInt8)) (ex_119 : (List (List UInt8)) × Int → Option (Unit)) : Nat → (List (List UInt8)) × Int × Int → Option (Unit) :=
  iter fun again v => hocketlaw5_FifoOrder.b_119 K x0 ex_119 again v.1 v.2.1 v.2.2
def hocketlaw5_FifoOrder.f (K : Nat) (x0 : List (List UInt8)) : Option (Unit) :=
  hocketlaw5_FifoOrder.l_119 K x0 (fun v => hocketlaw5_FifoOrder.j_10 K x0 v.1 v.2) K (([] : List (List UInt8)), 0, 0)

def pack_Read.f (x0 : List UInt8) : Option ((List UInt8) × Bool) :=
  Option.bind (slices_Clone_sbyte_byte.f x0) fun t_1 =>
  some (t_1, false)

def pack_held.f (x0 : Int) : Option (Int) :=
  some (mn (mx x0 0) 4611686018427387904)

def pack_Reader_fail.f (x0_b : List UInt8) (x0_bad : Bool) : Option (Int × (List UInt8) × Bool) :=
  some (0, ([] : List UInt8), true)

def pack_Reader_Num.j_4 (K : Nat) (x0_b : List UInt8) (x0_bad : Bool) : Option (Int × (List UInt8) × Bool) :=
  Option.bind (pack_Reader_fail.f x0_b x0_bad) fun t_5 =>
  some (t_5.1, t_5.2.1, t_5.2.2)
def pack_Reader_Num.j_29 (K : Nat) (ex_15 : Unit → Option (Int × (List UInt8) × Bool)) (x_14 : Int) (t_19 : UInt8) (again_15 : Int × Int → Option (Int × (List UInt8) × Bool)) (x_13 : Int) (x1 : Int) (x0_b : List UInt8) (x0_bad : Bool) (x_27 : Bool) : Option (Int × (List UInt8) × Bool) :=
  if x_27 = true then (
  ex_15 ())
  else (
  Option.bind (must (0 ≤ (w64 (7 * x_14)))) fun u_31 =>
  if (t_19.toNat : Int) ≥ ((128 : UInt8).toNat : Int) then (
  again_15 (bor .i64 x_13 (shl .i64 ((t_19 &&& (127 : UInt8)).toNat : Int) (w64 (7 * x_14))), w64 (x_14 + 1)))
  else (
  Option.bind (pack_held.f x1) fun t_35 =>
  if (bor .i64 x_13 (shl .i64 ((t_19 &&& (127 : UInt8)).toNat : Int) (w64 (7 * x_14)))) > t_35 then (
  ex_15 ())
  else (
  Option.bind (cut x0_b (w64 (x_14 + 1)) (x0_b.length : Int)) fun t_40 =>
  some (bor .i64 x_13 (shl .i64 ((t_19 &&& (127 : UInt8)).toNat : Int) (w64 (7 * x_14))), t_40, x0_bad))))
def pack_Reader_Num.b_15 (K : Nat) (x0_b : List UInt8) (x1 : Int) (x0_bad : Bool) (ex_15 : Unit → Option (Int × (List UInt8) × Bool)) (again_15 : Int × Int → Option (Int × (List UInt8) × Bool)) (x_13 : Int) (x_14 : Int) : Option (Int × (List UInt8) × Bool) :=
  if x_14 < (x0_b.length : Int) then (
  Option.bind (ix x0_b x_14) fun t_19 =>
  if x_14 > 8 then (
  pack_Reader_Num.j_29 K ex_15 x_14 t_19 again_15 x_13 x1 x0_b x0_bad true)
  else (
  if (t_19.toNat : Int) = ((0 : UInt8).toNat : Int) then (
  pack_Reader_Num.j_29 K ex_15 x_14 t_19 again_15 x_13 x1 x0_b x0_bad (decide (x_14 > 0)))
  else (
  pack_Reader_Num.j_29 K ex_15 x_14 t_19 again_15 x_13 x1 x0_b x0_bad false)))
  else (
  ex_15 ())
def pack_Reader_Num.l_15 (K : Nat) (x0_b : List UInt8) (x1 : Int) (x0_bad : Bool) (ex_15 : Unit → Option (Int × (List UInt8) × Bool)) : Nat → Int × Int → Option (Int × (List UInt8) × Bool) :=
  iter fun again v => pack_Reader_Num.b_15 K x0_b x1 x0_bad ex_15 again v.1 v.2
def pack_Reader_Num.f (K : Nat) (x0_b : List UInt8) (x0_bad : Bool) (x1 : Int) : Option (Int × (List UInt8) × Bool) :=
  pack_Reader_Num.l_15 K x0_b x1 x0_bad (fun v => pack_Reader_Num.j_4 K x0_b x0_bad) K (0, 0)

def pack_Reader_Ok.f (x0_b : List UInt8) (x0_bad : Bool) : Option (Bool × (List UInt8) × Bool) :=
  some (!x0_bad, x0_b, x0_bad)



def pack_Num.j_25 (K : Nat) (x_18 : Int) (x_19 : List UInt8) : Option ((List UInt8)) :=
  Option.bind (app 140737488355328 x_19 ([toU8 x_18] : List UInt8)) fun t_32 =>
  some t_32
def pack_Num.b_45 (K : Nat) (ex_45 : Int × (List UInt8) → Option ((List UInt8))) (again_45 : Int × (List UInt8) → Option ((List UInt8))) (x_39 : Int) (x_40 : List UInt8) : Option ((List UInt8)) :=
  if x_39 ≥ 128 then (
  Option.bind (app 140737488355328 x_40 ([toU8 (bor .i64 (band .i64 x_39 127) 128)] : List UInt8)) fun t_55 =>
  again_45 (shr .i64 x_39 7, t_55))
  else (
  ex_45 (x_39, x_40))
def pack_Num.l_45 (K : Nat) (ex_45 : Int × (List UInt8) → Option ((List UInt8))) : Nat → Int × (List UInt8) → Option ((List UInt8)) :=
  iter fun again v => pack_Num.b_45 K ex_45 again v.1 v.2
def pack_Num.f (K : Nat) (x0 : List UInt8) (x1 : Int) : Option ((List UInt8)) :=
  Option.bind (slices_Clone_sbyte_byte.f x0) fun t_1 =>
  Option.bind (pack_held.f x1) fun t_13 =>
  pack_Num.l_45 K (fun v => pack_Num.j_25 K v.1 v.2) K (t_13, t_1)

def pack_Reader_End.f (x0_b : List UInt8) (x0_bad : Bool) : Option (Bool × (List UInt8) × Bool) :=
  if x0_bad = true then (
  some (false, x0_b, x0_bad))
  else (
  some (((x0_b.length : Int) == 0), x0_b, x0_bad))

def pack_Bytes.f (K : Nat) (x0 : List UInt8) (x1 : List UInt8) : Option ((List UInt8)) :=
  Option.bind (pack_Num.f K x0 (x1.length : Int)) fun t_1 =>
  Option.bind (app 140737488355328 t_1 x1) fun t_9 =>
  some t_9

def pack_Reader_Bytes.f (K : Nat) (x0_b : List UInt8) (x0_bad : Bool) (x1 : Int) : Option ((List UInt8) × (List UInt8) × Bool) :=
  Option.bind (pack_Reader_Num.f K x0_b x0_bad x1) fun t_1 =>
  if t_1.1 > (t_1.2.1.length : Int) then (
  Option.bind (pack_Reader_fail.f t_1.2.1 t_1.2.2) fun t_10 =>
  some (([] : List UInt8), t_10.2.1, t_10.2.2))
  else (
  Option.bind (cut t_1.2.1 0 t_1.1) fun t_18 =>
  Option.bind (slices_Clone_sbyte_byte.f t_18) fun t_21 =>
  Option.bind (cut t_1.2.1 t_1.1 (t_1.2.1.length : Int)) fun t_29 =>
  some (t_21, t_29, t_1.2.2))

def hocketlaw2_awake.f (K : Nat) : Option (Unit) :=
  Option.bind (pack_Num.f K ([] : List UInt8) 300) fun t_1 =>
  Option.bind (pack_Bytes.f K t_1 ([(97 : UInt8), (98 : UInt8)] : List UInt8)) fun t_19 =>
  Option.bind (pack_Read.f t_19) fun t_27 =>
  Option.bind (pack_Reader_Num.f K t_27.1 t_27.2 300) fun t_35 =>
  Option.bind (pack_Reader_Bytes.f K t_35.2.1 t_35.2.2 2) fun t_41 =>
  Option.bind (pack_Reader_End.f t_41.2.1 t_41.2.2) fun t_51 =>
  Option.bind (pack_Read.f ([(128 : UInt8), (0 : UInt8)] : List UInt8)) fun t_63 =>
  Option.bind (pack_Num.f K ([] : List UInt8) 5) fun t_70 =>
  Option.bind (pack_Read.f t_70) fun t_78 =>
  if t_19 = ([172, 2, 2, 97, 98] : List UInt8) then (
  if t_35.1 = 300 then (
  if t_41.1 = ([97, 98] : List UInt8) then (
  if t_51.1 = true then (
  Option.bind (pack_Reader_Num.f K t_63.1 t_63.2 9) fun t_92 =>
  if t_92.1 = 0 then (
  Option.bind (pack_Reader_Ok.f t_92.2.1 t_92.2.2) fun t_99 =>
  if t_99.1 = true then (
  none)
  else (
  Option.bind (pack_Reader_Num.f K t_78.1 t_78.2 4) fun t_106 =>
  if t_106.1 = 0 then (
  Option.bind (pack_Reader_Ok.f t_106.2.1 t_106.2.2) fun t_113 =>
  if t_113.1 = true then (
  none)
  else (
  Option.bind (pack_Reader_End.f t_113.2.1 t_113.2.2) fun t_120 =>
  if t_120.1 = true then (
  none)
  else (
  some ())))
  else (
  none)))
  else (
  none))
  else (
  none))
  else (
  none))
  else (
  none))
  else (
  none)

def hocketlaw2_PackForms.j_45 (K : Nat) (t_8 : An_n_b_ok) (t_30 : Int × (List UInt8) × Bool) (x_39 : Bool) (x_40 : List UInt8) (x_43 : Bool) : Option (Unit) :=
  if x_39 = true then (
  none)
  else (
  if t_8.ok = true then (
  Option.bind (pack_Num.f K ([] : List UInt8) t_8.n) fun t_50 =>
  if t_50 = t_8.b then (
  if t_30.1 = (mn (mx t_8.n 0) 4611686018427387904) then (
  Option.bind (pack_Reader_End.f x_40 x_43) fun t_60 =>
  if t_60.1 = true then (
  Option.bind (hocketlaw2_awake.f K) fun t_67 =>
  some ())
  else (
  none))
  else (
  none))
  else (
  none))
  else (
  Option.bind (hocketlaw2_awake.f K) fun t_71 =>
  some ()))
def hocketlaw2_PackForms.f (K : Nat) (x0 : Int) : Option (Unit) :=
  Option.bind (rem (band .i64 x0 255) (([(⟨0, ([0] : List UInt8), true⟩ : An_n_b_ok), (⟨1, ([1] : List UInt8), true⟩ : An_n_b_ok), (⟨127, ([127] : List UInt8), true⟩ : An_n_b_ok), (⟨128, ([128, 1] : List UInt8), true⟩ : An_n_b_ok), (⟨300, ([172, 2] : List UInt8), true⟩ : An_n_b_ok), (⟨16383, ([255, 127] : List UInt8), true⟩ : An_n_b_ok), (⟨16384, ([128, 128, 1] : List UInt8), true⟩ : An_n_b_ok), (⟨4611686018427387904, ([128, 128, 128, 128, 128, 128, 128, 128, 64] : List UInt8), true⟩ : An_n_b_ok), (⟨(-5), ([0] : List UInt8), true⟩ : An_n_b_ok), (⟨4611686018427387913, ([128, 128, 128, 128, 128, 128, 128, 128, 64] : List UInt8), true⟩ : An_n_b_ok), (⟨0, ([] : List UInt8), false⟩ : An_n_b_ok), (⟨0, ([128] : List UInt8), false⟩ : An_n_b_ok), (⟨0, ([128, 0] : List UInt8), false⟩ : An_n_b_ok), (⟨0, ([255, 0] : List UInt8), false⟩ : An_n_b_ok), (⟨0, ([129, 128, 128, 128, 128, 128, 128, 128, 64] : List UInt8), false⟩ : An_n_b_ok), (⟨0, ([255, 255, 255, 255, 255, 255, 255, 255, 255, 1] : List UInt8), false⟩ : An_n_b_ok)] : List An_n_b_ok).length : Int)) fun t_7 =>
  Option.bind (ix ([(⟨0, ([0] : List UInt8), true⟩ : An_n_b_ok), (⟨1, ([1] : List UInt8), true⟩ : An_n_b_ok), (⟨127, ([127] : List UInt8), true⟩ : An_n_b_ok), (⟨128, ([128, 1] : List UInt8), true⟩ : An_n_b_ok), (⟨300, ([172, 2] : List UInt8), true⟩ : An_n_b_ok), (⟨16383, ([255, 127] : List UInt8), true⟩ : An_n_b_ok), (⟨16384, ([128, 128, 1] : List UInt8), true⟩ : An_n_b_ok), (⟨4611686018427387904, ([128, 128, 128, 128, 128, 128, 128, 128, 64] : List UInt8), true⟩ : An_n_b_ok), (⟨(-5), ([0] : List UInt8), true⟩ : An_n_b_ok), (⟨4611686018427387913, ([128, 128, 128, 128, 128, 128, 128, 128, 64] : List UInt8), true⟩ : An_n_b_ok), (⟨0, ([] : List UInt8), false⟩ : An_n_b_ok), (⟨0, ([128] : List UInt8), false⟩ : An_n_b_ok), (⟨0, ([128, 0] : List UInt8), false⟩ : An_n_b_ok), (⟨0, ([255, 0] : List UInt8), false⟩ : An_n_b_ok), (⟨0, ([129, 128, 128, 128, 128, 128, 128, 128, 64] : List UInt8), false⟩ : An_n_b_ok), (⟨0, ([255, 255, 255, 255, 255, 255, 255, 255, 255, 1] : List UInt8), false⟩ : An_n_b_ok)] : List An_n_b_ok) t_7) fun t_8 =>
  Option.bind (must (t_8.b.length ≤ 9223372036854775807)) fun u_16 =>
  Option.bind (pack_Read.f t_8.b) fun t_22 =>
  Option.bind (pack_Reader_Num.f K t_22.1 t_22.2 4611686018427387904) fun t_30 =>
  Option.bind (pack_Reader_Ok.f t_30.2.1 t_30.2.2) fun t_76 =>
  if t_76.1 = t_8.ok then (
  if t_8.ok = true then (
  hocketlaw2_PackForms.j_45 K t_8 t_30 false t_76.2.1 t_76.2.2)
  else (
  hocketlaw2_PackForms.j_45 K t_8 t_30 (t_30.1 != 0) t_76.2.1 t_76.2.2))
  else (
  hocketlaw2_PackForms.j_45 K t_8 t_30 true t_76.2.1 t_76.2.2)

def hocketlaw2_PackStops.j_60 (K : Nat) (x_58 : Bool) : Option (Unit) :=
  if x_58 = true then (
  none)
  else (
  Option.bind (pack_Num.f K ([] : List UInt8) 5) fun t_62 =>
  Option.bind (app 140737488355328 t_62 ([(1 : UInt8), (2 : UInt8), (3 : UInt8)] : List UInt8)) fun t_76 =>
  Option.bind (pack_Read.f t_76) fun t_82 =>
  Option.bind (pack_Reader_Num.f K t_82.1 t_82.2 4) fun t_91 =>
  if t_91.1 = 0 then (
  Option.bind (pack_Reader_Num.f K t_91.2.1 t_91.2.2 9) fun t_98 =>
  if t_98.1 = 0 then (
  Option.bind (pack_Reader_Bytes.f K t_98.2.1 t_98.2.2 9) fun t_105 =>
  if (t_105.1.length : Int) = 0 then (
  Option.bind (pack_Reader_Ok.f t_105.2.1 t_105.2.2) fun t_116 =>
  if t_116.1 = true then (
  none)
  else (
  Option.bind (pack_Reader_End.f t_116.2.1 t_116.2.2) fun t_123 =>
  if t_123.1 = true then (
  none)
  else (
  Option.bind (hocketlaw2_awake.f K) fun t_130 =>
  some ())))
  else (
  none))
  else (
  none))
  else (
  none))
def hocketlaw2_PackStops.f (K : Nat) (x0 : List UInt8) (x1 : Int) : Option (Unit) :=
  if (x0.length : Int) > 200 then (
  Option.bind (hocketlaw2_awake.f K) fun t_3 =>
  some ())
  else (
  Option.bind (pack_Bytes.f K ([] : List UInt8) x0) fun t_7 =>
  Option.bind (pack_Num.f K t_7 (band .i64 x1 65535)) fun t_15 =>
  Option.bind (pack_Bytes.f K ([] : List UInt8) x0) fun t_23 =>
  Option.bind (app 140737488355328 t_15 t_23) fun t_31 =>
  Option.bind (pack_Read.f t_31) fun t_37 =>
  Option.bind (pack_Reader_Bytes.f K t_37.1 t_37.2 200) fun t_45 =>
  if t_45.1 = x0 then (
  Option.bind (pack_Reader_Ok.f t_45.2.1 t_45.2.2) fun t_136 =>
  if t_136.1 = true then (
  Option.bind (pack_Reader_Num.f K t_136.2.1 t_136.2.2 (band .i64 x1 65535)) fun t_143 =>
  if t_143.1 = (band .i64 x1 65535) then (
  Option.bind (pack_Reader_Bytes.f K t_143.2.1 t_143.2.2 200) fun t_150 =>
  if t_150.1 = x0 then (
  Option.bind (pack_Reader_End.f t_150.2.1 t_150.2.2) fun t_161 =>
  hocketlaw2_PackStops.j_60 K (!t_161.1))
  else (
  hocketlaw2_PackStops.j_60 K true))
  else (
  hocketlaw2_PackStops.j_60 K true))
  else (
  hocketlaw2_PackStops.j_60 K true))
  else (
  hocketlaw2_PackStops.j_60 K true))

def hocketref1_Num.j_22 (K : Nat) (x_15 : Int) (x_16 : List UInt8) : Option ((List UInt8)) :=
  Option.bind (app 140737488355328 x_16 ([toU8 x_15] : List UInt8)) fun t_29 =>
  some t_29
def hocketref1_Num.b_42 (K : Nat) (ex_42 : Int × (List UInt8) → Option ((List UInt8))) (again_42 : Int × (List UInt8) → Option ((List UInt8))) (x_36 : Int) (x_37 : List UInt8) : Option ((List UInt8)) :=
  if x_36 > 127 then (
  Option.bind (app 140737488355328 x_37 ([toU8 (bor .i64 (band .i64 x_36 127) 128)] : List UInt8)) fun t_52 =>
  again_42 (shr .i64 x_36 7, t_52))
  else (
  ex_42 (x_36, x_37))
def hocketref1_Num.l_42 (K : Nat) (ex_42 : Int × (List UInt8) → Option ((List UInt8))) : Nat → Int × (List UInt8) → Option ((List UInt8)) :=
  iter fun again v => hocketref1_Num.b_42 K ex_42 again v.1 v.2
def hocketref1_Num.f (K : Nat) (x0 : List UInt8) (x1 : Int) : Option ((List UInt8)) :=
  Option.bind (app 140737488355328 ([] : List UInt8) x0) fun t_7 =>
  hocketref1_Num.l_42 K (fun v => hocketref1_Num.j_22 K v.1 v.2) K (mn (mx x1 0) 4611686018427387904, t_7)

def hocketref1_Bytes.f (K : Nat) (x0 : List UInt8) (x1 : List UInt8) : Option ((List UInt8)) :=
  Option.bind (hocketref1_Num.f K x0 (x1.length : Int)) fun t_1 =>
  Option.bind (app 140737488355328 t_1 x1) fun t_9 =>
  some t_9

def hocketref1_Reader_Num.j_5 (K : Nat) (x0_B : List UInt8) (x_3 : Bool) : Option (Int × (List UInt8) × Bool) :=
  some (0, x0_B, x_3)
def hocketref1_Reader_Num.j_32 (K : Nat) (ex_9 : Bool → Option (Int × (List UInt8) × Bool)) (x0_B : List UInt8) (x_8 : Int) (x_7 : Int) (t_21 : UInt8) (x0_Bad : Bool) (x_30 : Bool) : Option (Int × (List UInt8) × Bool) :=
  if x_30 = true then (
  ex_9 true)
  else (
  Option.bind (cut x0_B (w64 (x_8 + 1)) (x0_B.length : Int)) fun t_35 =>
  some (w64 (bor .u64 x_7 (shl .u64 (wu64 ((t_21 &&& (127 : UInt8)).toNat : Int)) (wu64 (w64 (7 * x_8))))), t_35, x0_Bad))
def hocketref1_Reader_Num.j_18 (K : Nat) (ex_9 : Bool → Option (Int × (List UInt8) × Bool)) (x0_B : List UInt8) (x_8 : Int) (x_7 : Int) (x0_Bad : Bool) (x1 : Int) (again_9 : Int × Int → Option (Int × (List UInt8) × Bool)) (x_16 : Bool) : Option (Int × (List UInt8) × Bool) :=
  if x_16 = true then (
  ex_9 true)
  else (
  Option.bind (ix x0_B x_8) fun t_21 =>
  if (t_21.toNat : Int) < ((128 : UInt8).toNat : Int) then (
  if (t_21.toNat : Int) = ((0 : UInt8).toNat : Int) then (
  if (w64 (x_8 + 1)) > 1 then (
  hocketref1_Reader_Num.j_32 K ex_9 x0_B x_8 x_7 t_21 x0_Bad true)
  else (
  hocketref1_Reader_Num.j_32 K ex_9 x0_B x_8 x_7 t_21 x0_Bad (decide ((bor .u64 x_7 (shl .u64 (wu64 ((t_21 &&& (127 : UInt8)).toNat : Int)) (wu64 (w64 (7 * x_8))))) > (wu64 (mn (mx x1 0) 4611686018427387904))))))
  else (
  hocketref1_Reader_Num.j_32 K ex_9 x0_B x_8 x_7 t_21 x0_Bad (decide ((bor .u64 x_7 (shl .u64 (wu64 ((t_21 &&& (127 : UInt8)).toNat : Int)) (wu64 (w64 (7 * x_8))))) > (wu64 (mn (mx x1 0) 4611686018427387904))))))
  else (
  again_9 (bor .u64 x_7 (shl .u64 (wu64 ((t_21 &&& (127 : UInt8)).toNat : Int)) (wu64 (w64 (7 * x_8)))), w64 (x_8 + 1))))
def hocketref1_Reader_Num.b_9 (K : Nat) (x0_Bad : Bool) (x0_B : List UInt8) (x1 : Int) (ex_9 : Bool → Option (Int × (List UInt8) × Bool)) (again_9 : Int × Int → Option (Int × (List UInt8) × Bool)) (x_7 : Int) (x_8 : Int) : Option (Int × (List UInt8) × Bool) :=
  if x0_Bad = true then (
  ex_9 x0_Bad)
  else (
  if x_8 ≥ (x0_B.length : Int) then (
  hocketref1_Reader_Num.j_18 K ex_9 x0_B x_8 x_7 x0_Bad x1 again_9 true)
  else (
  hocketref1_Reader_Num.j_18 K ex_9 x0_B x_8 x_7 x0_Bad x1 again_9 (decide (x_8 > 8))))
def hocketref1_Reader_Num.l_9 (K : Nat) (x0_Bad : Bool) (x0_B : List UInt8) (x1 : Int) (ex_9 : Bool → Option (Int × (List UInt8) × Bool)) : Nat → Int × Int → Option (Int × (List UInt8) × Bool) :=
  iter fun again v => hocketref1_Reader_Num.b_9 K x0_Bad x0_B x1 ex_9 again v.1 v.2
def hocketref1_Reader_Num.f (K : Nat) (x0_B : List UInt8) (x0_Bad : Bool) (x1 : Int) : Option (Int × (List UInt8) × Bool) :=
  hocketref1_Reader_Num.l_9 K x0_Bad x0_B x1 (fun v => hocketref1_Reader_Num.j_5 K x0_B v) K (0, 0)

def hocketref1_Reader_Bytes.j_13 (K : Nat) (x0_B : List UInt8) (t_1 : Int × (List UInt8) × Bool) (x_11 : Bool) : Option ((List UInt8) × (List UInt8) × Bool) :=
  if x_11 = true then (
  some (([] : List UInt8), x0_B, true))
  else (
  Option.bind (cut t_1.2.1 0 t_1.1) fun t_24 =>
  Option.bind (app 140737488355328 ([] : List UInt8) t_24) fun t_27 =>
  Option.bind (cut t_1.2.1 t_1.1 (t_1.2.1.length : Int)) fun t_33 =>
  some (t_27, t_33, t_1.2.2))
def hocketref1_Reader_Bytes.f (K : Nat) (x0_B : List UInt8) (x0_Bad : Bool) (x1 : Int) : Option ((List UInt8) × (List UInt8) × Bool) :=
  Option.bind (hocketref1_Reader_Num.f K x0_B x0_Bad x1) fun t_1 =>
  if t_1.2.2 = true then (
  hocketref1_Reader_Bytes.j_13 K x0_B t_1 true)
  else (
  hocketref1_Reader_Bytes.j_13 K x0_B t_1 (decide (t_1.1 > (t_1.2.1.length : Int))))

def hocketref1_Reader_End.f (x0_B : List UInt8) (x0_Bad : Bool) : Option (Bool × (List UInt8) × Bool) :=
  if x0_Bad = true then (
  some (false, x0_B, x0_Bad))
  else (
  some (((x0_B.length : Int) == 0), x0_B, x0_Bad))

def hocketlaw2_PackBack.j_80 (K : Nat) (t_50 : (List UInt8) × (List UInt8) × Bool) (x1 : List UInt8) (t_60 : (List UInt8)) (t_21 : (List UInt8)) (x_78 : Bool) : Option (Unit) :=
  if x_78 = true then (
  none)
  else (
  Option.bind (pack_Reader_End.f t_50.2.1 t_50.2.2) fun t_83 =>
  if t_83.1 = true then (
  if t_50.1 = x1 then (
  if t_60 = t_21 then (
  Option.bind (hocketlaw2_awake.f K) fun t_92 =>
  some ())
  else (
  none))
  else (
  none))
  else (
  none))
def hocketlaw2_PackBack.j_49 (K : Nat) (x1 : List UInt8) (t_21 : (List UInt8)) (x_14 : List Int) (x_39 : List UInt8) (x_44 : List UInt8) (x_47 : Bool) : Option (Unit) :=
  Option.bind (pack_Reader_Bytes.f K x_44 x_47 (x1.length : Int)) fun t_50 =>
  Option.bind (pack_Bytes.f K x_39 t_50.1) fun t_60 =>
  Option.bind (pack_Read.f t_21) fun t_68 =>
  if (x_14.length : Int) > 0 then (
  Option.bind (ix x_14 0) fun t_97 =>
  if t_97 > 0 then (
  Option.bind (ix x_14 0) fun t_103 =>
  Option.bind (pack_Reader_Num.f K t_68.1 t_68.2 (w64 (t_103 - 1))) fun t_108 =>
  if t_108.1 = 0 then (
  Option.bind (pack_Reader_Ok.f t_108.2.1 t_108.2.2) fun t_115 =>
  hocketlaw2_PackBack.j_80 K t_50 x1 t_60 t_21 t_115.1)
  else (
  hocketlaw2_PackBack.j_80 K t_50 x1 t_60 t_21 true))
  else (
  hocketlaw2_PackBack.j_80 K t_50 x1 t_60 t_21 false))
  else (
  hocketlaw2_PackBack.j_80 K t_50 x1 t_60 t_21 false)
def hocketlaw2_PackBack.b_132 (K : Nat) (x_14 : List Int) (ex_132 : (List UInt8) × (List UInt8) × Bool → Option (Unit)) (again_132 : (List UInt8) × Int × (List UInt8) × Bool → Option (Unit)) (x_122 : List UInt8) (x_127 : Int) (x_128 : List UInt8) (x_131 : Bool) : Option (Unit) :=
  if x_127 < (x_14.length : Int) then (
  Option.bind (ix x_14 x_127) fun t_137 =>
  Option.bind (pack_Reader_Num.f K x_128 x_131 t_137) fun t_142 =>
  Option.bind (ix x_14 x_127) fun t_149 =>
  if t_142.1 = t_149 then (
  Option.bind (pack_Num.f K x_122 t_142.1) fun t_155 =>
  again_132 (t_155, w64 (x_127 + 1), t_142.2.1, t_142.2.2))
  else (
  none))
  else (
  ex_132 (x_122, x_128, x_131))
def hocketlaw2_PackBack.l_132 (K : Nat) (x_14 : List Int) (ex_132 : (List UInt8) × (List UInt8) × Bool → Option (Unit)) : Nat → (List UInt8) × Int × (List UInt8) × Bool → Option (Unit) :=
  iter fun again v => hocketlaw2_PackBack.b_132 K x_14 ex_132 again v.1 v.2.1 v.2.2.1 v.2.2.2
def hocketlaw2_PackBack.j_20 (K : Nat) (x1 : List UInt8) (x_9 : List UInt8) (x_14 : List Int) : Option (Unit) :=
  Option.bind (pack_Bytes.f K x_9 x1) fun t_21 =>
  Option.bind (pack_Read.f t_21) fun t_29 =>
  hocketlaw2_PackBack.l_132 K x_14 (fun v => hocketlaw2_PackBack.j_49 K x1 t_21 x_14 v.1 v.2.1 v.2.2) K (([] : List UInt8), 0, t_29.1, t_29.2)
def hocketlaw2_PackBack.j_184 (K : Nat) (x0 : List Int) (x_174 : Int) (x_169 : List Int) (x_164 : List UInt8) (again_175 : (List UInt8) × (List Int) × Int → Option (Unit)) (ex_175 : (List UInt8) × (List Int) → Option (Unit)) (x_182 : Bool) : Option (Unit) :=
  if x_182 = true then (
  Option.bind (ix x0 x_174) fun t_186 =>
  Option.bind (app 17592186044416 x_169 ([mn (mx t_186 0) 4611686018427387904] : List Int)) fun t_197 =>
  Option.bind (ix x0 x_174) fun t_203 =>
  Option.bind (pack_Num.f K x_164 t_203) fun t_208 =>
  again_175 (t_208, t_197, w64 (x_174 + 1)))
  else (
  ex_175 (x_164, x_169))
def hocketlaw2_PackBack.b_175 (K : Nat) (x0 : List Int) (ex_175 : (List UInt8) × (List Int) → Option (Unit)) (again_175 : (List UInt8) × (List Int) × Int → Option (Unit)) (x_164 : List UInt8) (x_169 : List Int) (x_174 : Int) : Option (Unit) :=
  if x_174 < (x0.length : Int) then (
  hocketlaw2_PackBack.j_184 K x0 x_174 x_169 x_164 again_175 ex_175 (decide (x_174 < 12)))
  else (
  hocketlaw2_PackBack.j_184 K x0 x_174 x_169 x_164 again_175 ex_175 false)
def hocketlaw2_PackBack.l_175 (K : Nat) (x0 : List Int) (ex_175 : (List UInt8) × (List Int) → Option (Unit)) : Nat → (List UInt8) × (List Int) × Int → Option (Unit) :=
  iter fun again v => hocketlaw2_PackBack.b_175 K x0 ex_175 again v.1 v.2.1 v.2.2
def hocketlaw2_PackBack.f (K : Nat) (x0 : List Int) (x1 : List UInt8) (x2 : Int) : Option (Unit) :=
  if (x1.length : Int) > 200 then (
  Option.bind (hocketlaw2_awake.f K) fun t_3 =>
  some ())
  else (
  hocketlaw2_PackBack.l_175 K x0 (fun v => hocketlaw2_PackBack.j_20 K x1 v.1 v.2) K (([] : List UInt8), ([] : List Int), 0))
end Go.Gp
