/- The functions that the law reaches, told plainly. -/
import Derived.Test.YtjpkmlchofpjdaaLa
namespace Go.Gp
set_option linter.unusedVariables false
structure api_Result where
  Err : Int
  Val : List UInt8
  N : Int
  deriving DecidableEq
def ok_api_Result (x : api_Result) : Prop := i64ok x.Err ∧ (x.Val.length ≤ 140737488351232 ∧ ∀ z ∈ x.Val, True) ∧ i64ok x.N
def slices_Clone_sbyte_byte.f (x0 : List UInt8) : Option (List UInt8) :=
  app 140737488355328 ([] : List UInt8) x0



def fifo_Still.J1 (K : Nat) (x_3 : List (List UInt8)) : Option ((List (List UInt8))) :=
  some x_3
def fifo_Still.B1 (K : Nat) (x0 : List (List UInt8)) (ex_20 : (List (List UInt8)) → Option ((List (List UInt8)))) (again_20 : (List (List UInt8)) × Int → Option ((List (List UInt8)))) (x_14 : List (List UInt8)) (x_19 : Int) : Option ((List (List UInt8))) :=
  if x_19 < (x0.length : Int) then (
  Option.bind (ix x0 x_19) fun t_25 =>
  Option.bind (slices_Clone_sbyte_byte.f t_25) fun t_32 =>
  Option.bind (app 5864062014805 x_14 ([t_32] : List (List UInt8))) fun t_47 =>
  again_20 (t_47, w64 (x_19 + 1)))
  else (
  ex_20 x_14)
def fifo_Still.L1 (K : Nat) (x0 : List (List UInt8)) (ex_20 : (List (List UInt8)) → Option ((List (List UInt8)))) : Nat → (List (List UInt8)) × Int → Option ((List (List UInt8))) :=
  iter fun again v => fifo_Still.B1 K x0 ex_20 again v.1 v.2
def fifo_Still.f (K : Nat) (x0 : List (List UInt8)) : Option ((List (List UInt8))) :=
  fifo_Still.L1 K x0 (fun v => fifo_Still.J1 K v) K (([] : List (List UInt8)), 0)

def fifo_Push.f (K : Nat) (x0 : List (List UInt8)) (x1 : List UInt8) : Option ((List (List UInt8)) × api_Result) :=
  Option.bind (fifo_Still.f K x0) fun t_3 =>
  if (x1.length : Int) > 16 then (
  some (t_3, (⟨1, ([] : List UInt8), 0⟩ : api_Result)))
  else (
  if (t_3.length : Int) ≥ 8 then (
  some (t_3, (⟨3, ([] : List UInt8), 0⟩ : api_Result)))
  else (
  Option.bind (slices_Clone_sbyte_byte.f x1) fun t_18 =>
  Option.bind (app 5864062014805 t_3 ([t_18] : List (List UInt8))) fun t_33 =>
  some (t_33, (⟨0, ([] : List UInt8), w64 ((t_3.length : Int) + 1)⟩ : api_Result))))

def fifo_Pop.f (K : Nat) (x0 : List (List UInt8)) : Option ((List (List UInt8)) × api_Result) :=
  Option.bind (fifo_Still.f K x0) fun t_3 =>
  if (t_3.length : Int) = 0 then (
  some (t_3, (⟨4, ([] : List UInt8), 0⟩ : api_Result)))
  else (
  Option.bind (cut t_3 1 (t_3.length : Int)) fun t_18 =>
  Option.bind (ix t_3 0) fun t_21 =>
  some (t_18, (⟨0, t_21, 0⟩ : api_Result)))

def hocketlaw5_awake.f (K : Nat) : Option (Unit) :=
  Option.bind (fifo_Push.f K ([] : List (List UInt8)) ([(97 : UInt8)] : List UInt8)) fun t_11 =>
  Option.bind (fifo_Push.f K t_11.1 ([(98 : UInt8)] : List UInt8)) fun t_36 =>
  Option.bind (fifo_Pop.f K t_36.1) fun t_51 =>
  Option.bind (fifo_Pop.f K ([] : List (List UInt8))) fun t_62 =>
  if t_11.2.N = 1 then (
  if t_36.2.N = 2 then (
  if (t_36.1.length : Int) = 2 then (
  if (t_51.1.length : Int) = 1 then (
  if t_51.2.Val = ([97] : List UInt8) then (
  if t_62.2.Err = 4 then (
  some ())
  else (
  none))
  else (
  none))
  else (
  none))
  else (
  none))
  else (
  none))
  else (
  none)

def hocketlaw5_FifoOwn.J3 (K : Nat) (x_3 : List (List UInt8)) (t_16 : List UInt8) : Option (Unit) :=
  Option.bind (fifo_Pop.f K x_3) fun t_46 =>
  Option.bind (ix x_3 0) fun t_58 =>
  if t_58 = t_16 then (
  if t_46.2.Val = t_16 then (
  if (t_46.1.length : Int) = (w64 ((x_3.length : Int) - 1)) then (
  Option.bind (hocketlaw5_awake.f K) fun t_68 =>
  some ())
  else (
  none))
  else (
  none))
  else (
  none)
def hocketlaw5_FifoOwn.J4 (K : Nat) (again_76 : Int → Option (Unit)) (x_73 : Int) : Option (Unit) :=
  again_76 (w64 (x_73 + 1))
def hocketlaw5_FifoOwn.B2 (K : Nat) (t_81 : List UInt8) (t_23 : (List (List UInt8)) × api_Result) (x_73 : Int) (ex_98 : Unit → Option (Unit)) (again_98 : Int → Option (Unit)) (x_95 : Int) : Option (Unit) :=
  if x_95 < (t_81.length : Int) then (
  Option.bind (ix t_23.1 x_73) fun t_102 =>
  Option.bind (ix t_102 x_95) fun t_109 =>
  Option.bind (ix t_102 x_95) fun t_116 =>
  again_98 (w64 (x_95 + 1)))
  else (
  ex_98 ())
def hocketlaw5_FifoOwn.L2 (K : Nat) (t_81 : List UInt8) (t_23 : (List (List UInt8)) × api_Result) (x_73 : Int) (ex_98 : Unit → Option (Unit)) : Nat → Int → Option (Unit) :=
  iter fun again v => hocketlaw5_FifoOwn.B2 K t_81 t_23 x_73 ex_98 again v
def hocketlaw5_FifoOwn.B1 (K : Nat) (t_23 : (List (List UInt8)) × api_Result) (ex_76 : Unit → Option (Unit)) (again_76 : Int → Option (Unit)) (x_73 : Int) : Option (Unit) :=
  if x_73 < (t_23.1.length : Int) then (
  Option.bind (ix t_23.1 x_73) fun t_81 =>
  hocketlaw5_FifoOwn.L2 K t_81 t_23 x_73 (fun v => hocketlaw5_FifoOwn.J4 K again_76 x_73) K 0)
  else (
  ex_76 ())
def hocketlaw5_FifoOwn.L1 (K : Nat) (t_23 : (List (List UInt8)) × api_Result) (ex_76 : Unit → Option (Unit)) : Nat → Int → Option (Unit) :=
  iter fun again v => hocketlaw5_FifoOwn.B1 K t_23 ex_76 again v
def hocketlaw5_FifoOwn.J2 (K : Nat) (t_23 : (List (List UInt8)) × api_Result) (x_3 : List (List UInt8)) (t_16 : List UInt8) : Option (Unit) :=
  hocketlaw5_FifoOwn.L1 K t_23 (fun v => hocketlaw5_FifoOwn.J3 K x_3 t_16) K 0
def hocketlaw5_FifoOwn.B3 (K : Nat) (t_23 : (List (List UInt8)) × api_Result) (ex_128 : Unit → Option (Unit)) (again_128 : Int → Option (Unit)) (x_125 : Int) : Option (Unit) :=
  if x_125 < (t_23.2.Val.length : Int) then (
  Option.bind (ix t_23.2.Val x_125) fun t_132 =>
  Option.bind (ix t_23.2.Val x_125) fun t_139 =>
  again_128 (w64 (x_125 + 1)))
  else (
  ex_128 ())
def hocketlaw5_FifoOwn.L3 (K : Nat) (t_23 : (List (List UInt8)) × api_Result) (ex_128 : Unit → Option (Unit)) : Nat → Int → Option (Unit) :=
  iter fun again v => hocketlaw5_FifoOwn.B3 K t_23 ex_128 again v
def hocketlaw5_FifoOwn.J1 (K : Nat) (x_3 : List (List UInt8)) : Option (Unit) :=
  if (x_3.length : Int) = 0 then (
  Option.bind (hocketlaw5_awake.f K) fun t_12 =>
  some ())
  else (
  Option.bind (ix x_3 0) fun t_16 =>
  Option.bind (fifo_Pop.f K x_3) fun t_23 =>
  hocketlaw5_FifoOwn.L3 K t_23 (fun v => hocketlaw5_FifoOwn.J2 K t_23 x_3 t_16) K 0)
def hocketlaw5_FifoOwn.J7 (K : Nat) (again_154 : (List (List UInt8)) × Int → Option (Unit)) (t_192 : (List (List UInt8)) × api_Result) (x_153 : Int) (x_214 : Bool) : Option (Unit) :=
  if x_214 = true then (
  none)
  else (
  again_154 (t_192.1, w64 (x_153 + 1)))
def hocketlaw5_FifoOwn.J6 (K : Nat) (t_192 : (List (List UInt8)) × api_Result) (x_148 : List (List UInt8)) (x0 : List (List UInt8)) (x_153 : Int) (again_154 : (List (List UInt8)) × Int → Option (Unit)) : Option (Unit) :=
  if t_192.2.Err = 0 then (
  if (t_192.1.length : Int) = (w64 ((x_148.length : Int) + 1)) then (
  Option.bind (ix t_192.1 (x_148.length : Int)) fun t_221 =>
  Option.bind (ix x0 x_153) fun t_228 =>
  hocketlaw5_FifoOwn.J7 K again_154 t_192 x_153 (!(t_221 == t_228)))
  else (
  hocketlaw5_FifoOwn.J7 K again_154 t_192 x_153 true))
  else (
  hocketlaw5_FifoOwn.J7 K again_154 t_192 x_153 true)
def hocketlaw5_FifoOwn.B5 (K : Nat) (t_186 : List UInt8) (ex_242 : Unit → Option (Unit)) (again_242 : (List UInt8) × Int → Option (Unit)) (x_236 : List UInt8) (x_241 : Int) : Option (Unit) :=
  if x_241 < (t_186.length : Int) then (
  Option.bind (ix x_236 x_241) fun t_246 =>
  Option.bind (ix x_236 x_241) fun t_251 =>
  again_242 ((x_236.set (x_241).toNat (toU8 ((t_246.toNat : Int) + ((1 : UInt8).toNat : Int)))), w64 (x_241 + 1)))
  else (
  ex_242 ())
def hocketlaw5_FifoOwn.L5 (K : Nat) (t_186 : List UInt8) (ex_242 : Unit → Option (Unit)) : Nat → (List UInt8) × Int → Option (Unit) :=
  iter fun again v => hocketlaw5_FifoOwn.B5 K t_186 ex_242 again v.1 v.2
def hocketlaw5_FifoOwn.J5 (K : Nat) (x0 : List (List UInt8)) (x_153 : Int) (again_154 : (List (List UInt8)) × Int → Option (Unit)) (x_148 : List (List UInt8)) (ex_154 : (List (List UInt8)) → Option (Unit)) (x_160 : Bool) : Option (Unit) :=
  if x_160 = true then (
  Option.bind (ix x0 x_153) fun t_165 =>
  if (t_165.length : Int) > 16 then (
  again_154 (x_148, w64 (x_153 + 1)))
  else (
  Option.bind (ix x0 x_153) fun t_179 =>
  Option.bind (app 140737488355328 ([] : List UInt8) t_179) fun t_186 =>
  Option.bind (fifo_Push.f K x_148 t_186) fun t_192 =>
  hocketlaw5_FifoOwn.L5 K t_186 (fun v => hocketlaw5_FifoOwn.J6 K t_192 x_148 x0 x_153 again_154) K (t_186, 0)))
  else (
  ex_154 x_148)
def hocketlaw5_FifoOwn.B4 (K : Nat) (x0 : List (List UInt8)) (ex_154 : (List (List UInt8)) → Option (Unit)) (again_154 : (List (List UInt8)) × Int → Option (Unit)) (x_148 : List (List UInt8)) (x_153 : Int) : Option (Unit) :=
  if x_153 < (x0.length : Int) then (
  hocketlaw5_FifoOwn.J5 K x0 x_153 again_154 x_148 ex_154 (decide ((x_148.length : Int) < 8)))
  else (
  hocketlaw5_FifoOwn.J5 K x0 x_153 again_154 x_148 ex_154 false)
def hocketlaw5_FifoOwn.L4 (K : Nat) (x0 : List (List UInt8)) (ex_154 : (List (List UInt8)) → Option (Unit)) : Nat → (List (List UInt8)) × Int → Option (Unit) :=
  iter fun again v => hocketlaw5_FifoOwn.B4 K x0 ex_154 again v.1 v.2
def hocketlaw5_FifoOwn.f (K : Nat) (x0 : List (List UInt8)) : Option (Unit) :=
  hocketlaw5_FifoOwn.L4 K x0 (fun v => hocketlaw5_FifoOwn.J1 K v) K (([] : List (List UInt8)), 0)
end Go.Gp
