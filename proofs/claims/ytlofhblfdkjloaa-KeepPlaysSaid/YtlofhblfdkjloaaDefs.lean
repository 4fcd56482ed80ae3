/- The functions that the law reaches, told plainly. -/
import Derived.Test.YtlofhblfdkjloaaLa
namespace Go.Gp
set_option linter.unusedVariables false
structure api_Record where
  Inc : Int
  Prom : Int
  Inst : Int
  deriving DecidableEq
structure api_Disk where
  A : List UInt8
  B : List UInt8
  deriving DecidableEq
structure keep_Keep where
  d : api_Disk
  cut : Int
  dead : Bool
  deriving DecidableEq
def ok_api_Record (x : api_Record) : Prop := i64ok x.Inc ∧ i64ok x.Prom ∧ i64ok x.Inst
def ok_api_Disk (x : api_Disk) : Prop := (x.A.length ≤ 140737488351232 ∧ ∀ z ∈ x.A, True) ∧ (x.B.length ≤ 140737488351232 ∧ ∀ z ∈ x.B, True)
def ok_keep_Keep (x : keep_Keep) : Prop := ok_api_Disk x.d ∧ i64ok x.cut ∧ True
def slices_Clone_sbyte_byte.f (x0 : List UInt8) : Option (List UInt8) :=
  app 140737488355328 ([] : List UInt8) x0



def pack_held.f (x0 : Int) : Option (Int) :=
  some (mn (mx x0 0) 4611686018427387904)

def pack_Num.J1 (K : Nat) (x_18 : Int) (x_19 : List UInt8) : Option ((List UInt8)) :=
  Option.bind (app 140737488355328 x_19 ([toU8 x_18] : List UInt8)) fun t_32 =>
  some t_32
def pack_Num.B1 (K : Nat) (ex_45 : Int × (List UInt8) → Option ((List UInt8))) (again_45 : Int × (List UInt8) → Option ((List UInt8))) (x_39 : Int) (x_40 : List UInt8) : Option ((List UInt8)) :=
  if x_39 ≥ 128 then (
  Option.bind (app 140737488355328 x_40 ([toU8 (bor .i64 (band .i64 x_39 127) 128)] : List UInt8)) fun t_55 =>
  again_45 (shr .i64 x_39 7, t_55))
  else (
  ex_45 (x_39, x_40))
def pack_Num.L1 (K : Nat) (ex_45 : Int × (List UInt8) → Option ((List UInt8))) : Nat → Int × (List UInt8) → Option ((List UInt8)) :=
  iter fun again v => pack_Num.B1 K ex_45 again v.1 v.2
def pack_Num.f (K : Nat) (x0 : List UInt8) (x1 : Int) : Option ((List UInt8)) :=
  Option.bind (slices_Clone_sbyte_byte.f x0) fun t_1 =>
  Option.bind (pack_held.f x1) fun t_13 =>
  pack_Num.L1 K (fun v => pack_Num.J1 K v.1 v.2) K (t_13, t_1)

def disk_held.f (x0 : Int) : Option (Int) :=
  some (mn (mx x0 0) 1099511627776)

def crcs_Next.J1 (K : Nat) (x_3 : UInt32) : Option (UInt32) :=
  some x_3
def crcs_Next.B1 (K : Nat) (ex_9 : UInt32 → Option (UInt32)) (again_9 : UInt32 × Int → Option (UInt32)) (x_7 : UInt32) (x_8 : Int) : Option (UInt32) :=
  if x_8 < 8 then (
  if ((x_7 &&& (1 : UInt32)).toNat : Int) = ((1 : UInt32).toNat : Int) then (
  again_9 ((toU32 (shr .u32 (x_7.toNat : Int) 1)) ^^^ (3988292384 : UInt32), w64 (x_8 + 1)))
  else (
  again_9 (toU32 (shr .u32 (x_7.toNat : Int) 1), w64 (x_8 + 1))))
  else (
  ex_9 x_7)
def crcs_Next.L1 (K : Nat) (ex_9 : UInt32 → Option (UInt32)) : Nat → UInt32 × Int → Option (UInt32) :=
  iter fun again v => crcs_Next.B1 K ex_9 again v.1 v.2
def crcs_Next.f (K : Nat) (x0 : UInt32) (x1 : UInt8) : Option (UInt32) :=
  crcs_Next.L1 K (fun v => crcs_Next.J1 K v) K (x0 ^^^ (toU32 (x1.toNat : Int)), 0)

def crcs_Sum.J1 (K : Nat) (x_3 : UInt32) : Option (UInt32) :=
  some (x_3 ^^^ (4294967295 : UInt32))
def crcs_Sum.B1 (K : Nat) (x0 : List UInt8) (ex_9 : UInt32 → Option (UInt32)) (again_9 : UInt32 × Int → Option (UInt32)) (x_7 : UInt32) (x_8 : Int) : Option (UInt32) :=
  if x_8 < (x0.length : Int) then (
  Option.bind (ix x0 x_8) fun t_13 =>
  Option.bind (crcs_Next.f K x_7 t_13) fun t_18 =>
  again_9 (t_18, w64 (x_8 + 1)))
  else (
  ex_9 x_7)
def crcs_Sum.L1 (K : Nat) (x0 : List UInt8) (ex_9 : UInt32 → Option (UInt32)) : Nat → UInt32 × Int → Option (UInt32) :=
  iter fun again v => crcs_Sum.B1 K x0 ex_9 again v.1 v.2
def crcs_Sum.f (K : Nat) (x0 : List UInt8) : Option (UInt32) :=
  crcs_Sum.L1 K x0 (fun v => crcs_Sum.J1 K v) K ((4294967295 : UInt32), 0)

def disk_Slot.J1 (K : Nat) (x_11 : List UInt8) : Option ((List UInt8)) :=
  Option.bind (crcs_Sum.f K x_11) fun t_18 =>
  Option.bind (app 140737488355328 ([toU8 (t_18.toNat : Int), toU8 ((toU32 (shr .u32 (t_18.toNat : Int) 8)).toNat : Int), toU8 ((toU32 (shr .u32 (t_18.toNat : Int) 16)).toNat : Int), toU8 ((toU32 (shr .u32 (t_18.toNat : Int) 24)).toNat : Int)] : List UInt8) x_11) fun t_28 =>
  some t_28
def disk_Slot.B1 (K : Nat) (x0 : Int) (x1 : api_Record) (ex_41 : (List UInt8) → Option ((List UInt8))) (again_41 : (List UInt8) × Int → Option ((List UInt8))) (x_35 : List UInt8) (x_40 : Int) : Option ((List UInt8)) :=
  if x_40 < (([x0, x1.Inc, x1.Prom, x1.Inst] : List Int).length : Int) then (
  Option.bind (ix ([x0, x1.Inc, x1.Prom, x1.Inst] : List Int) x_40) fun t_46 =>
  Option.bind (disk_held.f t_46) fun t_51 =>
  Option.bind (pack_Num.f K x_35 t_51) fun t_55 =>
  again_41 (t_55, w64 (x_40 + 1)))
  else (
  ex_41 x_35)
def disk_Slot.L1 (K : Nat) (x0 : Int) (x1 : api_Record) (ex_41 : (List UInt8) → Option ((List UInt8))) : Nat → (List UInt8) × Int → Option ((List UInt8)) :=
  iter fun again v => disk_Slot.B1 K x0 x1 ex_41 again v.1 v.2
def disk_Slot.f (K : Nat) (x0 : Int) (x1 : api_Record) : Option ((List UInt8)) :=
  disk_Slot.L1 K x0 x1 (fun v => disk_Slot.J1 K v) K (([] : List UInt8), 0)

def slices_Equal_sbyte_byte.J1 (K : Nat) : Option (Bool) :=
  some true
def slices_Equal_sbyte_byte.B1 (K : Nat) (x0 : List UInt8) (x1 : List UInt8) (ex_9 : Unit → Option (Bool)) (again_9 : Int → Option (Bool)) (x_8 : Int) : Option (Bool) :=
  if x_8 < (x0.length : Int) then (
  Option.bind (ix x0 x_8) fun t_16 =>
  Option.bind (ix x1 x_8) fun t_21 =>
  if (t_16.toNat : Int) = (t_21.toNat : Int) then (
  again_9 (w64 (x_8 + 1)))
  else (
  some false))
  else (
  ex_9 ())
def slices_Equal_sbyte_byte.L1 (K : Nat) (x0 : List UInt8) (x1 : List UInt8) (ex_9 : Unit → Option (Bool)) : Nat → Int → Option (Bool) :=
  iter fun again v => slices_Equal_sbyte_byte.B1 K x0 x1 ex_9 again v
def slices_Equal_sbyte_byte.f (K : Nat) (x0 : List UInt8) (x1 : List UInt8) : Option (Bool) :=
  if (x0.length : Int) = (x1.length : Int) then (
  slices_Equal_sbyte_byte.L1 K x0 x1 (fun v => slices_Equal_sbyte_byte.J1 K) K 0)
  else (
  some false)

def pack_Read.f (x0 : List UInt8) : Option ((List UInt8) × Bool) :=
  Option.bind (slices_Clone_sbyte_byte.f x0) fun t_1 =>
  some (t_1, false)

def pack_Reader_fail.f (x0_b : List UInt8) (x0_bad : Bool) : Option (Int × (List UInt8) × Bool) :=
  some (0, ([] : List UInt8), true)

def pack_Reader_Num.J1 (K : Nat) (x0_b : List UInt8) (x0_bad : Bool) : Option (Int × (List UInt8) × Bool) :=
  Option.bind (pack_Reader_fail.f x0_b x0_bad) fun t_5 =>
  some (t_5.1, t_5.2.1, t_5.2.2)
def pack_Reader_Num.J2 (K : Nat) (ex_15 : Unit → Option (Int × (List UInt8) × Bool)) (x_14 : Int) (t_19 : UInt8) (again_15 : Int × Int → Option (Int × (List UInt8) × Bool)) (x_13 : Int) (x1 : Int) (x0_b : List UInt8) (x0_bad : Bool) (x_27 : Bool) : Option (Int × (List UInt8) × Bool) :=
  if x_27 = true then (
  ex_15 ())
  else (
  Option.bind (must (0 ≤ (w64 (7 * x_14)))) fun u_31 =>
  if (t_19.toNat : Int) ≥ ((128 : UInt8).toNat : Int) then (
  again_15 (bor .i64 x_13 (shl .i64 ((t_19 &&& (127 : UInt8)).toNat : Int) (w64 (7 * x_14))), w64 (x_14 + 1)))
  else (
  Option.bind (pack_held.f x1) fun t_35 =>
  if (bor .i64 x_13 (shl .i64 ((t_19 &&& (127 : UInt8)).toNat : Int) (w64 (7 * x_14)))) > t_35 then (
  ex_15 ())
  else (
  Option.bind (cut x0_b (w64 (x_14 + 1)) (x0_b.length : Int)) fun t_40 =>
  some (bor .i64 x_13 (shl .i64 ((t_19 &&& (127 : UInt8)).toNat : Int) (w64 (7 * x_14))), t_40, x0_bad))))
def pack_Reader_Num.B1 (K : Nat) (x0_b : List UInt8) (x1 : Int) (x0_bad : Bool) (ex_15 : Unit → Option (Int × (List UInt8) × Bool)) (again_15 : Int × Int → Option (Int × (List UInt8) × Bool)) (x_13 : Int) (x_14 : Int) : Option (Int × (List UInt8) × Bool) :=
  if x_14 < (x0_b.length : Int) then (
  Option.bind (ix x0_b x_14) fun t_19 =>
  if x_14 > 8 then (
  pack_Reader_Num.J2 K ex_15 x_14 t_19 again_15 x_13 x1 x0_b x0_bad true)
  else (
  if (t_19.toNat : Int) = ((0 : UInt8).toNat : Int) then (
  pack_Reader_Num.J2 K ex_15 x_14 t_19 again_15 x_13 x1 x0_b x0_bad (decide (x_14 > 0)))
  else (
  pack_Reader_Num.J2 K ex_15 x_14 t_19 again_15 x_13 x1 x0_b x0_bad false)))
  else (
  ex_15 ())
def pack_Reader_Num.L1 (K : Nat) (x0_b : List UInt8) (x1 : Int) (x0_bad : Bool) (ex_15 : Unit → Option (Int × (List UInt8) × Bool)) : Nat → Int × Int → Option (Int × (List UInt8) × Bool) :=
  iter fun again v => pack_Reader_Num.B1 K x0_b x1 x0_bad ex_15 again v.1 v.2
def pack_Reader_Num.f (K : Nat) (x0_b : List UInt8) (x0_bad : Bool) (x1 : Int) : Option (Int × (List UInt8) × Bool) :=
  pack_Reader_Num.L1 K x0_b x1 x0_bad (fun v => pack_Reader_Num.J1 K x0_b x0_bad) K (0, 0)

def pack_Reader_End.f (x0_b : List UInt8) (x0_bad : Bool) : Option (Bool × (List UInt8) × Bool) :=
  if x0_bad = true then (
  some (false, x0_b, x0_bad))
  else (
  some (((x0_b.length : Int) == 0), x0_b, x0_bad))

def disk_open.J1 (K : Nat) (t_16 : Int × (List UInt8) × Bool) (t_22 : Int × (List UInt8) × Bool) (t_28 : Int × (List UInt8) × Bool) (t_34 : Int × (List UInt8) × Bool) (x_46 : Bool) : Option (Int × api_Record × Bool) :=
  if x_46 = true then (
  some (0, (⟨0, 0, 0⟩ : api_Record), false))
  else (
  some (t_16.1, (⟨t_22.1, t_28.1, t_34.1⟩ : api_Record), true))
def disk_open.f (K : Nat) (x0 : List UInt8) : Option (Int × api_Record × Bool) :=
  if (x0.length : Int) < 4 then (
  some (0, (⟨0, 0, 0⟩ : api_Record), false))
  else (
  Option.bind (cut x0 4 (x0.length : Int)) fun t_6 =>
  Option.bind (pack_Read.f t_6) fun t_9 =>
  Option.bind (pack_Reader_Num.f K t_9.1 t_9.2 1099511627776) fun t_16 =>
  Option.bind (pack_Reader_Num.f K t_16.2.1 t_16.2.2 1099511627776) fun t_22 =>
  Option.bind (pack_Reader_Num.f K t_22.2.1 t_22.2.2 1099511627776) fun t_28 =>
  Option.bind (pack_Reader_Num.f K t_28.2.1 t_28.2.2 1099511627776) fun t_34 =>
  Option.bind (pack_Reader_End.f t_34.2.1 t_34.2.2) fun t_54 =>
  if t_54.1 = true then (
  Option.bind (disk_Slot.f K t_16.1 (⟨t_22.1, t_28.1, t_34.1⟩ : api_Record)) fun t_61 =>
  Option.bind (slices_Equal_sbyte_byte.f K t_61 x0) fun t_69 =>
  disk_open.J1 K t_16 t_22 t_28 t_34 (!t_69))
  else (
  disk_open.J1 K t_16 t_22 t_28 t_34 true))

def disk_which.J1 (K : Nat) (t_12 : Int × api_Record × Bool) (t_5 : Int × api_Record × Bool) (x_22 : Bool) : Option (Int × api_Record × Bool × Bool) :=
  if x_22 = true then (
  some (t_12.1, t_12.2.1, true, true))
  else (
  some (t_5.1, t_5.2.1, false, t_5.2.2))
def disk_which.f (K : Nat) (x0 : api_Disk) : Option (Int × api_Record × Bool × Bool) :=
  Option.bind (disk_open.f K x0.A) fun t_5 =>
  Option.bind (disk_open.f K x0.B) fun t_12 =>
  if t_12.2.2 = true then (
  if t_5.2.2 = true then (
  disk_which.J1 K t_12 t_5 (decide (t_12.1 > t_5.1)))
  else (
  disk_which.J1 K t_12 t_5 true))
  else (
  disk_which.J1 K t_12 t_5 false)

def disk_Write.J4 (K : Nat) (x_39 : api_Disk) (x_29 : List UInt8) (x_53 : Bool) : Option (api_Disk) :=
  if x_53 = true then (
  some (⟨x_39.A, x_29⟩ : api_Disk))
  else (
  some (⟨x_29, x_39.B⟩ : api_Disk))
def disk_Write.J3 (K : Nat) (t_7 : Int × api_Record × Bool × Bool) (x_29 : List UInt8) (x_39 : api_Disk) : Option (api_Disk) :=
  if t_7.2.2.2 = true then (
  disk_Write.J4 K x_39 x_29 (!t_7.2.2.1))
  else (
  disk_Write.J4 K x_39 x_29 false)
def disk_Write.J2 (K : Nat) (x0 : api_Disk) (t_7 : Int × api_Record × Bool × Bool) (x_29 : List UInt8) : Option (api_Disk) :=
  Option.bind (slices_Clone_sbyte_byte.f x0.A) fun t_63 =>
  Option.bind (slices_Clone_sbyte_byte.f x0.B) fun t_71 =>
  disk_Write.J3 K t_7 x_29 (⟨t_63, t_71⟩ : api_Disk)
def disk_Write.J1 (K : Nat) (t_14 : (List UInt8)) (x2 : Int) (x0 : api_Disk) (t_7 : Int × api_Record × Bool × Bool) (x_25 : Bool) : Option (api_Disk) :=
  if x_25 = true then (
  Option.bind (cut t_14 0 x2) fun t_114 =>
  Option.bind (slices_Clone_sbyte_byte.f t_114) fun t_117 =>
  disk_Write.J2 K x0 t_7 t_117)
  else (
  disk_Write.J2 K x0 t_7 t_14)
def disk_Write.f (K : Nat) (x0 : api_Disk) (x1 : api_Record) (x2 : Int) : Option (api_Disk) :=
  Option.bind (disk_which.f K x0) fun t_7 =>
  Option.bind (disk_Slot.f K (w64 (t_7.1 + 1)) x1) fun t_14 =>
  if x2 ≥ 0 then (
  disk_Write.J1 K t_14 x2 x0 t_7 (decide (x2 < (t_14.length : Int))))
  else (
  disk_Write.J1 K t_14 x2 x0 t_7 false)

def disk_Read.f (K : Nat) (x0 : api_Disk) : Option (api_Record × Bool) :=
  Option.bind (disk_which.f K x0) fun t_5 =>
  some (t_5.2.1, t_5.2.2.2)

def hocketlaw13_awake.f (K : Nat) : Option (Unit) :=
  Option.bind (disk_Write.f K (⟨([] : List UInt8), ([] : List UInt8)⟩ : api_Disk) (⟨1, 0, 0⟩ : api_Record) (-1)) fun t_1 =>
  Option.bind (disk_Write.f K t_1 (⟨2, 8, 0⟩ : api_Record) (-1)) fun t_16 =>
  Option.bind (disk_Write.f K t_16 (⟨3, 0, 0⟩ : api_Record) 5) fun t_31 =>
  Option.bind (disk_Read.f K t_16) fun t_46 =>
  Option.bind (disk_Read.f K t_31) fun t_53 =>
  Option.bind (disk_Read.f K (⟨([] : List UInt8), ([] : List UInt8)⟩ : api_Disk)) fun t_60 =>
  if t_46.2 = true then (
  if [t_46.1.Inc, t_46.1.Prom, t_46.1.Inst] = [2, 8, 0] then (
  if t_53.2 = true then (
  if [t_53.1.Inc, t_53.1.Prom, t_53.1.Inst] = [t_46.1.Inc, t_46.1.Prom, t_46.1.Inst] then (
  if t_60.2 = true then (
  none)
  else (
  if (t_1.A.length : Int) > 0 then (
  if (t_1.B.length : Int) = 0 then (
  if (t_31.A.length : Int) = 5 then (
  some ())
  else (
  none))
  else (
  none))
  else (
  none)))
  else (
  none))
  else (
  none))
  else (
  none))
  else (
  none)

def hocketlaw13_DiskTurns.J1 (K : Nat) : Option (Unit) :=
  Option.bind (hocketlaw13_awake.f K) fun t_8 =>
  some ()
def hocketlaw13_DiskTurns.J4 (K : Nat) (again_23 : Int × api_Disk → Option (Unit)) (x_13 : Int) (t_49 : api_Disk) (x_112 : Bool) : Option (Unit) :=
  if x_112 = true then (
  none)
  else (
  again_23 (w64 (x_13 + 1), t_49))
def hocketlaw13_DiskTurns.J3 (K : Nat) (x_14 : api_Disk) (x_13 : Int) (t_36 : Int) (t_41 : Int) (again_23 : Int × api_Disk → Option (Unit)) (t_49 : api_Disk) (x_76 : Bool) : Option (Unit) :=
  if x_76 = true then (
  none)
  else (
  Option.bind (disk_Write.f K x_14 (⟨w64 (x_13 + 1), band .i64 t_36 65535, band .i64 (shr .i64 t_41 16) 255⟩ : api_Record) 4) fun t_80 =>
  Option.bind (disk_Read.f K t_80) fun t_95 =>
  Option.bind (disk_Read.f K x_14) fun t_102 =>
  if t_95.2 = t_102.2 then (
  hocketlaw13_DiskTurns.J4 K again_23 x_13 t_49 (!([t_95.1.Inc, t_95.1.Prom, t_95.1.Inst] == [t_102.1.Inc, t_102.1.Prom, t_102.1.Inst])))
  else (
  hocketlaw13_DiskTurns.J4 K again_23 x_13 t_49 true))
def hocketlaw13_DiskTurns.J2 (K : Nat) (x0 : List Int) (x_13 : Int) (x_14 : api_Disk) (again_23 : Int × api_Disk → Option (Unit)) (ex_23 : Unit → Option (Unit)) (x_30 : Bool) : Option (Unit) :=
  if x_30 = true then (
  Option.bind (ix x0 x_13) fun t_36 =>
  Option.bind (ix x0 x_13) fun t_41 =>
  Option.bind (disk_Write.f K x_14 (⟨w64 (x_13 + 1), band .i64 t_36 65535, band .i64 (shr .i64 t_41 16) 255⟩ : api_Record) (-1)) fun t_49 =>
  Option.bind (disk_Read.f K t_49) fun t_66 =>
  if (t_49.A == x_14.A) = (t_49.B == x_14.B) then (
  hocketlaw13_DiskTurns.J3 K x_14 x_13 t_36 t_41 again_23 t_49 true)
  else (
  if (t_49.A == x_14.A) = ((band .i64 x_13 1) == 1) then (
  if t_66.2 = true then (
  hocketlaw13_DiskTurns.J3 K x_14 x_13 t_36 t_41 again_23 t_49 (!([t_66.1.Inc, t_66.1.Prom, t_66.1.Inst] == [w64 (x_13 + 1), band .i64 t_36 65535, band .i64 (shr .i64 t_41 16) 255])))
  else (
  hocketlaw13_DiskTurns.J3 K x_14 x_13 t_36 t_41 again_23 t_49 true))
  else (
  hocketlaw13_DiskTurns.J3 K x_14 x_13 t_36 t_41 again_23 t_49 true)))
  else (
  ex_23 ())
def hocketlaw13_DiskTurns.B1 (K : Nat) (x0 : List Int) (ex_23 : Unit → Option (Unit)) (again_23 : Int × api_Disk → Option (Unit)) (x_13 : Int) (x_14 : api_Disk) : Option (Unit) :=
  if x_13 < (x0.length : Int) then (
  hocketlaw13_DiskTurns.J2 K x0 x_13 x_14 again_23 ex_23 (decide (x_13 < 20)))
  else (
  hocketlaw13_DiskTurns.J2 K x0 x_13 x_14 again_23 ex_23 false)
def hocketlaw13_DiskTurns.L1 (K : Nat) (x0 : List Int) (ex_23 : Unit → Option (Unit)) : Nat → Int × api_Disk → Option (Unit) :=
  iter fun again v => hocketlaw13_DiskTurns.B1 K x0 ex_23 again v.1 v.2
def hocketlaw13_DiskTurns.f (K : Nat) (x0 : List Int) : Option (Unit) :=
  hocketlaw13_DiskTurns.L1 K x0 (fun v => hocketlaw13_DiskTurns.J1 K) K (0, (⟨([] : List UInt8), ([] : List UInt8)⟩ : api_Disk))

def hocketlaw13_DiskPrefix.J2 (K : Nat) (x4 : Int) (x_28 : List UInt8) : Option (Unit) :=
  Option.bind (app 140737488355328 ([] : List UInt8) x_28) fun t_39 =>
  Option.bind (rem (band .i64 x4 65535) (w64 (8 * (t_39.length : Int)))) fun t_45 =>
  Option.bind (ix t_39 (w64 (Int.tdiv t_45 8))) fun t_46 =>
  Option.bind (ix t_39 (w64 (Int.tdiv t_45 8))) fun t_51 =>
  Option.bind (disk_Read.f K (⟨(t_39.set ((w64 (Int.tdiv t_45 8))).toNat (t_46 ^^^ (toU8 (((1 : UInt8).toNat : Int) * 2 ^ (min (wu64 (band .i64 t_45 7) : Int).toNat 8))))), ([] : List UInt8)⟩ : api_Disk)) fun t_58 =>
  Option.bind (app 140737488355328 ([] : List UInt8) x_28) fun t_71 =>
  Option.bind (app 140737488355328 t_71 ([(0 : UInt8)] : List UInt8)) fun t_83 =>
  Option.bind (disk_Read.f K (⟨t_83, ([] : List UInt8)⟩ : api_Disk)) fun t_89 =>
  if t_58.2 = true then (
  none)
  else (
  if t_89.2 = true then (
  none)
  else (
  Option.bind (hocketlaw13_awake.f K) fun t_99 =>
  some ()))
def hocketlaw13_DiskPrefix.B1 (K : Nat) (ex_108 : (List UInt8) → Option (Unit)) (again_108 : (List UInt8) × Int → Option (Unit)) (x_104 : List UInt8) (x_107 : Int) : Option (Unit) :=
  if x_107 < (x_104.length : Int) then (
  Option.bind (cut x_104 0 x_107) fun t_114 =>
  Option.bind (disk_Read.f K (⟨t_114, ([] : List UInt8)⟩ : api_Disk)) fun t_117 =>
  if t_117.2 = true then (
  none)
  else (
  again_108 (x_104, w64 (x_107 + 1))))
  else (
  ex_108 x_104)
def hocketlaw13_DiskPrefix.L1 (K : Nat) (ex_108 : (List UInt8) → Option (Unit)) : Nat → (List UInt8) × Int → Option (Unit) :=
  iter fun again v => hocketlaw13_DiskPrefix.B1 K ex_108 again v.1 v.2
def hocketlaw13_DiskPrefix.J1 (K : Nat) (x4 : Int) (t_4 : (List UInt8)) (x_22 : Bool) : Option (Unit) :=
  if x_22 = true then (
  none)
  else (
  hocketlaw13_DiskPrefix.L1 K (fun v => hocketlaw13_DiskPrefix.J2 K x4 v) K (t_4, 0))
def hocketlaw13_DiskPrefix.f (K : Nat) (x0 : Int) (x1 : Int) (x2 : Int) (x3 : Int) (x4 : Int) : Option (Unit) :=
  Option.bind (disk_Slot.f K (band .i64 x0 65535) (⟨band .i64 x1 16777215, band .i64 x2 16777215, band .i64 x3 16777215⟩ : api_Record)) fun t_4 =>
  Option.bind (disk_Read.f K (⟨([] : List UInt8), t_4⟩ : api_Disk)) fun t_12 =>
  if t_12.2 = true then (
  hocketlaw13_DiskPrefix.J1 K x4 t_4 (!([t_12.1.Inc, t_12.1.Prom, t_12.1.Inst] == [band .i64 x1 16777215, band .i64 x2 16777215, band .i64 x3 16777215])))
  else (
  hocketlaw13_DiskPrefix.J1 K x4 t_4 true)

def hocketlaw13_DiskOwn.J2 (K : Nat) (t_16 : api_Disk) (t_32 : List UInt8) : Option (Unit) :=
  Option.bind (disk_Read.f K t_16) fun t_61 =>
  Option.bind (app 140737488355328 t_16.A ([124] : List UInt8)) fun t_69 =>
  Option.bind (app 140737488355328 t_69 t_16.B) fun t_70 =>
  if t_70 = t_32 then (
  if t_61.2 = true then (
  if t_61.1.Inc = 2 then (
  Option.bind (hocketlaw13_awake.f K) fun t_74 =>
  some ())
  else (
  none))
  else (
  none))
  else (
  none)
def hocketlaw13_DiskOwn.B1 (K : Nat) (t_33 : api_Disk) (ex_85 : Unit → Option (Unit)) (again_85 : Int × (List UInt8) → Option (Unit)) (x_79 : Int) (x_80 : List UInt8) : Option (Unit) :=
  if x_79 < (t_33.B.length : Int) then (
  Option.bind (ix x_80 x_79) fun t_89 =>
  Option.bind (ix x_80 x_79) fun t_94 =>
  again_85 (w64 (x_79 + 1), (x_80.set (x_79).toNat (toU8 ((t_89.toNat : Int) + ((1 : UInt8).toNat : Int))))))
  else (
  ex_85 ())
def hocketlaw13_DiskOwn.L1 (K : Nat) (t_33 : api_Disk) (ex_85 : Unit → Option (Unit)) : Nat → Int × (List UInt8) → Option (Unit) :=
  iter fun again v => hocketlaw13_DiskOwn.B1 K t_33 ex_85 again v.1 v.2
def hocketlaw13_DiskOwn.J1 (K : Nat) (t_33 : api_Disk) (t_16 : api_Disk) (t_32 : List UInt8) (x_50 : List UInt8) : Option (Unit) :=
  hocketlaw13_DiskOwn.L1 K t_33 (fun v => hocketlaw13_DiskOwn.J2 K t_16 t_32) K (0, t_33.B)
def hocketlaw13_DiskOwn.B2 (K : Nat) (t_33 : api_Disk) (ex_108 : (List UInt8) → Option (Unit)) (again_108 : Int × (List UInt8) → Option (Unit)) (x_102 : Int) (x_103 : List UInt8) : Option (Unit) :=
  if x_102 < (t_33.A.length : Int) then (
  Option.bind (ix x_103 x_102) fun t_112 =>
  Option.bind (ix x_103 x_102) fun t_117 =>
  again_108 (w64 (x_102 + 1), (x_103.set (x_102).toNat (toU8 ((t_112.toNat : Int) + ((1 : UInt8).toNat : Int))))))
  else (
  ex_108 x_103)
def hocketlaw13_DiskOwn.L2 (K : Nat) (t_33 : api_Disk) (ex_108 : (List UInt8) → Option (Unit)) : Nat → Int × (List UInt8) → Option (Unit) :=
  iter fun again v => hocketlaw13_DiskOwn.B2 K t_33 ex_108 again v.1 v.2
def hocketlaw13_DiskOwn.f (K : Nat) (x0 : Int) (x1 : Int) (x2 : Int) : Option (Unit) :=
  Option.bind (disk_Write.f K (⟨([] : List UInt8), ([] : List UInt8)⟩ : api_Disk) (⟨1, band .i64 x0 65535, 0⟩ : api_Record) (-1)) fun t_1 =>
  Option.bind (disk_Write.f K t_1 (⟨2, band .i64 x1 65535, 0⟩ : api_Record) (-1)) fun t_16 =>
  Option.bind (app 140737488355328 t_16.A ([124] : List UInt8)) fun t_31 =>
  Option.bind (app 140737488355328 t_31 t_16.B) fun t_32 =>
  Option.bind (disk_Write.f K t_16 (⟨3, 0, 0⟩ : api_Record) (band .i64 x2 31)) fun t_33 =>
  hocketlaw13_DiskOwn.L2 K t_33 (fun v => hocketlaw13_DiskOwn.J1 K t_33 t_16 t_32 v) K (0, t_33.A)

def hocketref1_Next.J1 (K : Nat) (x_3 : UInt32) : Option (UInt32) :=
  some x_3
def hocketref1_Next.B1 (K : Nat) (ex_9 : UInt32 → Option (UInt32)) (again_9 : UInt32 × Int → Option (UInt32)) (x_7 : UInt32) (x_8 : Int) : Option (UInt32) :=
  if x_8 < 8 then (
  if ((x_7 &&& (1 : UInt32)).toNat : Int) = ((1 : UInt32).toNat : Int) then (
  again_9 ((toU32 (shr .u32 (x_7.toNat : Int) 1)) ^^^ (3988292384 : UInt32), w64 (x_8 + 1)))
  else (
  again_9 (toU32 (shr .u32 (x_7.toNat : Int) 1), w64 (x_8 + 1))))
  else (
  ex_9 x_7)
def hocketref1_Next.L1 (K : Nat) (ex_9 : UInt32 → Option (UInt32)) : Nat → UInt32 × Int → Option (UInt32) :=
  iter fun again v => hocketref1_Next.B1 K ex_9 again v.1 v.2
def hocketref1_Next.f (K : Nat) (x0 : UInt32) (x1 : UInt8) : Option (UInt32) :=
  hocketref1_Next.L1 K (fun v => hocketref1_Next.J1 K v) K (x0 ^^^ (toU32 (x1.toNat : Int)), 0)

def hocketref1_Sum.J1 (K : Nat) (x_3 : UInt32) : Option (UInt32) :=
  some (x_3 ^^^ (4294967295 : UInt32))
def hocketref1_Sum.B1 (K : Nat) (x0 : List UInt8) (ex_9 : UInt32 → Option (UInt32)) (again_9 : UInt32 × Int → Option (UInt32)) (x_7 : UInt32) (x_8 : Int) : Option (UInt32) :=
  if x_8 < (x0.length : Int) then (
  Option.bind (ix x0 x_8) fun t_13 =>
  Option.bind (hocketref1_Next.f K x_7 t_13) fun t_18 =>
  again_9 (t_18, w64 (x_8 + 1)))
  else (
  ex_9 x_7)
def hocketref1_Sum.L1 (K : Nat) (x0 : List UInt8) (ex_9 : UInt32 → Option (UInt32)) : Nat → UInt32 × Int → Option (UInt32) :=
  iter fun again v => hocketref1_Sum.B1 K x0 ex_9 again v.1 v.2
def hocketref1_Sum.f (K : Nat) (x0 : List UInt8) : Option (UInt32) :=
  hocketref1_Sum.L1 K x0 (fun v => hocketref1_Sum.J1 K v) K ((4294967295 : UInt32), 0)

def hocketref1_Unfour.J1 (K : Nat) (x0 : List UInt8) (x_14 : Bool) : Option ((List UInt8) × Bool) :=
  if x_14 = true then (
  some (([] : List UInt8), false))
  else (
  Option.bind (cut x0 4 (x0.length : Int)) fun t_25 =>
  Option.bind (app 140737488355328 ([] : List UInt8) t_25) fun t_28 =>
  some (t_28, true))
def hocketref1_Unfour.f (K : Nat) (x0 : List UInt8) : Option ((List UInt8) × Bool) :=
  if (x0.length : Int) < 4 then (
  some (([] : List UInt8), false))
  else (
  Option.bind (cut x0 4 (x0.length : Int)) fun t_4 =>
  Option.bind (hocketref1_Sum.f K t_4) fun t_7 =>
  Option.bind (ix x0 0) fun t_34 =>
  if (t_34.toNat : Int) = ((toU8 (t_7.toNat : Int)).toNat : Int) then (
  Option.bind (ix x0 1) fun t_40 =>
  if (t_40.toNat : Int) = ((toU8 ((toU32 (shr .u32 (t_7.toNat : Int) 8)).toNat : Int)).toNat : Int) then (
  Option.bind (ix x0 2) fun t_46 =>
  if (t_46.toNat : Int) = ((toU8 ((toU32 (shr .u32 (t_7.toNat : Int) 16)).toNat : Int)).toNat : Int) then (
  Option.bind (ix x0 3) fun t_52 =>
  hocketref1_Unfour.J1 K x0 ((t_52.toNat : Int) != ((toU8 ((toU32 (shr .u32 (t_7.toNat : Int) 24)).toNat : Int)).toNat : Int)))
  else (
  hocketref1_Unfour.J1 K x0 true))
  else (
  hocketref1_Unfour.J1 K x0 true))
  else (
  hocketref1_Unfour.J1 K x0 true))

def hocketref1_Reader_Num.J1 (K : Nat) (x0_B : List UInt8) (x_3 : Bool) : Option (Int × (List UInt8) × Bool) :=
  some (0, x0_B, x_3)
def hocketref1_Reader_Num.J3 (K : Nat) (ex_9 : Bool → Option (Int × (List UInt8) × Bool)) (x0_B : List UInt8) (x_8 : Int) (x_7 : Int) (t_21 : UInt8) (x0_Bad : Bool) (x_30 : Bool) : Option (Int × (List UInt8) × Bool) :=
  if x_30 = true then (
  ex_9 true)
  else (
  Option.bind (cut x0_B (w64 (x_8 + 1)) (x0_B.length : Int)) fun t_35 =>
  some (w64 (bor .u64 x_7 (shl .u64 (wu64 ((t_21 &&& (127 : UInt8)).toNat : Int)) (wu64 (w64 (7 * x_8))))), t_35, x0_Bad))
def hocketref1_Reader_Num.J2 (K : Nat) (ex_9 : Bool → Option (Int × (List UInt8) × Bool)) (x0_B : List UInt8) (x_8 : Int) (x_7 : Int) (x0_Bad : Bool) (x1 : Int) (again_9 : Int × Int → Option (Int × (List UInt8) × Bool)) (x_16 : Bool) : Option (Int × (List UInt8) × Bool) :=
  if x_16 = true then (
  ex_9 true)
  else (
  Option.bind (ix x0_B x_8) fun t_21 =>
  if (t_21.toNat : Int) < ((128 : UInt8).toNat : Int) then (
  if (t_21.toNat : Int) = ((0 : UInt8).toNat : Int) then (
  if (w64 (x_8 + 1)) > 1 then (
  hocketref1_Reader_Num.J3 K ex_9 x0_B x_8 x_7 t_21 x0_Bad true)
  else (
  hocketref1_Reader_Num.J3 K ex_9 x0_B x_8 x_7 t_21 x0_Bad (decide ((bor .u64 x_7 (shl .u64 (wu64 ((t_21 &&& (127 : UInt8)).toNat : Int)) (wu64 (w64 (7 * x_8))))) > (wu64 (mn (mx x1 0) 4611686018427387904))))))
  else (
  hocketref1_Reader_Num.J3 K ex_9 x0_B x_8 x_7 t_21 x0_Bad (decide ((bor .u64 x_7 (shl .u64 (wu64 ((t_21 &&& (127 : UInt8)).toNat : Int)) (wu64 (w64 (7 * x_8))))) > (wu64 (mn (mx x1 0) 4611686018427387904))))))
  else (
  again_9 (bor .u64 x_7 (shl .u64 (wu64 ((t_21 &&& (127 : UInt8)).toNat : Int)) (wu64 (w64 (7 * x_8)))), w64 (x_8 + 1))))
def hocketref1_Reader_Num.B1 (K : Nat) (x0_Bad : Bool) (x0_B : List UInt8) (x1 : Int) (ex_9 : Bool → Option (Int × (List UInt8) × Bool)) (again_9 : Int × Int → Option (Int × (List UInt8) × Bool)) (x_7 : Int) (x_8 : Int) : Option (Int × (List UInt8) × Bool) :=
  if x0_Bad = true then (
  ex_9 x0_Bad)
  else (
  if x_8 ≥ (x0_B.length : Int) then (
  hocketref1_Reader_Num.J2 K ex_9 x0_B x_8 x_7 x0_Bad x1 again_9 true)
  else (
  hocketref1_Reader_Num.J2 K ex_9 x0_B x_8 x_7 x0_Bad x1 again_9 (decide (x_8 > 8))))
def hocketref1_Reader_Num.L1 (K : Nat) (x0_Bad : Bool) (x0_B : List UInt8) (x1 : Int) (ex_9 : Bool → Option (Int × (List UInt8) × Bool)) : Nat → Int × Int → Option (Int × (List UInt8) × Bool) :=
  iter fun again v => hocketref1_Reader_Num.B1 K x0_Bad x0_B x1 ex_9 again v.1 v.2
def hocketref1_Reader_Num.f (K : Nat) (x0_B : List UInt8) (x0_Bad : Bool) (x1 : Int) : Option (Int × (List UInt8) × Bool) :=
  hocketref1_Reader_Num.L1 K x0_Bad x0_B x1 (fun v => hocketref1_Reader_Num.J1 K x0_B v) K (0, 0)

def hocketref1_Reader_End.f (x0_B : List UInt8) (x0_Bad : Bool) : Option (Bool × (List UInt8) × Bool) :=
  if x0_Bad = true then (
  some (false, x0_B, x0_Bad))
  else (
  some (((x0_B.length : Int) == 0), x0_B, x0_Bad))

def hocketref11_slot.f (K : Nat) (x0 : List UInt8) : Option (Int × api_Record) :=
  Option.bind (hocketref1_Unfour.f K x0) fun t_3 =>
  if t_3.2 = true then (
  Option.bind (hocketref1_Reader_Num.f K t_3.1 false 1099511627776) fun t_16 =>
  Option.bind (hocketref1_Reader_Num.f K t_16.2.1 t_16.2.2 1099511627776) fun t_22 =>
  Option.bind (hocketref1_Reader_Num.f K t_22.2.1 t_22.2.2 1099511627776) fun t_28 =>
  Option.bind (hocketref1_Reader_Num.f K t_28.2.1 t_28.2.2 1099511627776) fun t_34 =>
  Option.bind (hocketref1_Reader_End.f t_34.2.1 t_34.2.2) fun t_44 =>
  if t_44.1 = true then (
  some (t_16.1, (⟨t_22.1, t_28.1, t_34.1⟩ : api_Record)))
  else (
  some ((-1), (⟨0, 0, 0⟩ : api_Record))))
  else (
  some ((-1), (⟨0, 0, 0⟩ : api_Record)))

def hocketref11_ReadDisk.J1 (K : Nat) (t_5 : Int × api_Record) (t_12 : Int × api_Record) (x_22 : Bool) : Option (api_Record × Bool) :=
  if x_22 = true then (
  some ((⟨0, 0, 0⟩ : api_Record), false))
  else (
  if t_5.1 ≥ t_12.1 then (
  some (t_5.2, true))
  else (
  some (t_12.2, true)))
def hocketref11_ReadDisk.f (K : Nat) (x0 : api_Disk) : Option (api_Record × Bool) :=
  Option.bind (hocketref11_slot.f K x0.A) fun t_5 =>
  Option.bind (hocketref11_slot.f K x0.B) fun t_12 =>
  if t_5.1 < 0 then (
  hocketref11_ReadDisk.J1 K t_5 t_12 (decide (t_12.1 < 0)))
  else (
  hocketref11_ReadDisk.J1 K t_5 t_12 false)

def hocketref1_Four.f (K : Nat) (x0 : List UInt8) : Option ((List UInt8)) :=
  Option.bind (hocketref1_Sum.f K x0) fun t_1 =>
  Option.bind (app 140737488355328 ([toU8 (t_1.toNat : Int), toU8 ((toU32 (shr .u32 (t_1.toNat : Int) 8)).toNat : Int), toU8 ((toU32 (shr .u32 (t_1.toNat : Int) 16)).toNat : Int), toU8 ((toU32 (shr .u32 (t_1.toNat : Int) 24)).toNat : Int)] : List UInt8) x0) fun t_11 =>
  some t_11

def hocketref1_Num.J1 (K : Nat) (x_15 : Int) (x_16 : List UInt8) : Option ((List UInt8)) :=
  Option.bind (app 140737488355328 x_16 ([toU8 x_15] : List UInt8)) fun t_29 =>
  some t_29
def hocketref1_Num.B1 (K : Nat) (ex_42 : Int × (List UInt8) → Option ((List UInt8))) (again_42 : Int × (List UInt8) → Option ((List UInt8))) (x_36 : Int) (x_37 : List UInt8) : Option ((List UInt8)) :=
  if x_36 > 127 then (
  Option.bind (app 140737488355328 x_37 ([toU8 (bor .i64 (band .i64 x_36 127) 128)] : List UInt8)) fun t_52 =>
  again_42 (shr .i64 x_36 7, t_52))
  else (
  ex_42 (x_36, x_37))
def hocketref1_Num.L1 (K : Nat) (ex_42 : Int × (List UInt8) → Option ((List UInt8))) : Nat → Int × (List UInt8) → Option ((List UInt8)) :=
  iter fun again v => hocketref1_Num.B1 K ex_42 again v.1 v.2
def hocketref1_Num.f (K : Nat) (x0 : List UInt8) (x1 : Int) : Option ((List UInt8)) :=
  Option.bind (app 140737488355328 ([] : List UInt8) x0) fun t_7 =>
  hocketref1_Num.L1 K (fun v => hocketref1_Num.J1 K v.1 v.2) K (mn (mx x1 0) 4611686018427387904, t_7)

def hocketref11_nums.J1 (K : Nat) (x_3 : List UInt8) : Option ((List UInt8)) :=
  some x_3
def hocketref11_nums.B1 (K : Nat) (x1 : List Int) (ex_13 : (List UInt8) → Option ((List UInt8))) (again_13 : (List UInt8) × Int → Option ((List UInt8))) (x_9 : List UInt8) (x_12 : Int) : Option ((List UInt8)) :=
  if x_12 < (x1.length : Int) then (
  Option.bind (ix x1 x_12) fun t_17 =>
  Option.bind (hocketref1_Num.f K x_9 t_17) fun t_22 =>
  again_13 (t_22, w64 (x_12 + 1)))
  else (
  ex_13 x_9)
def hocketref11_nums.L1 (K : Nat) (x1 : List Int) (ex_13 : (List UInt8) → Option ((List UInt8))) : Nat → (List UInt8) × Int → Option ((List UInt8)) :=
  iter fun again v => hocketref11_nums.B1 K x1 ex_13 again v.1 v.2
def hocketref11_nums.f (K : Nat) (x0 : List UInt8) (x1 : List Int) : Option ((List UInt8)) :=
  hocketref11_nums.L1 K x1 (fun v => hocketref11_nums.J1 K v) K (x0, 0)

def hocketref11_held.f (x0 : Int) : Option (Int) :=
  some (mn (mx x0 0) 1099511627776)

def hocketref11_Slot.f (K : Nat) (x0 : Int) (x1 : api_Record) : Option ((List UInt8)) :=
  Option.bind (hocketref11_held.f x0) fun t_5 =>
  Option.bind (hocketref11_held.f x1.Inc) fun t_9 =>
  Option.bind (hocketref11_held.f x1.Prom) fun t_13 =>
  Option.bind (hocketref11_held.f x1.Inst) fun t_17 =>
  Option.bind (hocketref11_nums.f K ([] : List UInt8) ([t_5, t_9, t_13, t_17] : List Int)) fun t_28 =>
  Option.bind (hocketref1_Four.f K t_28) fun t_34 =>
  some t_34

def hocketref11_WriteDisk.J6 (K : Nat) (x_54 : api_Disk) (x_46 : List UInt8) (x_68 : Bool) : Option (api_Disk) :=
  if x_68 = true then (
  some (⟨x_54.A, x_46⟩ : api_Disk))
  else (
  some (⟨x_46, x_54.B⟩ : api_Disk))
def hocketref11_WriteDisk.J5 (K : Nat) (t_7 : Int × api_Record) (t_14 : Int × api_Record) (x_46 : List UInt8) (x_54 : api_Disk) : Option (api_Disk) :=
  if t_7.1 ≥ t_14.1 then (
  hocketref11_WriteDisk.J6 K x_54 x_46 (decide (t_7.1 ≥ 0)))
  else (
  hocketref11_WriteDisk.J6 K x_54 x_46 false)
def hocketref11_WriteDisk.J4 (K : Nat) (x0 : api_Disk) (t_7 : Int × api_Record) (t_14 : Int × api_Record) (x_46 : List UInt8) : Option (api_Disk) :=
  Option.bind (app 140737488355328 ([] : List UInt8) x0.A) fun t_86 =>
  Option.bind (app 140737488355328 ([] : List UInt8) x0.B) fun t_98 =>
  hocketref11_WriteDisk.J5 K t_7 t_14 x_46 (⟨t_86, t_98⟩ : api_Disk)
def hocketref11_WriteDisk.J3 (K : Nat) (t_31 : (List UInt8)) (x2 : Int) (x0 : api_Disk) (t_7 : Int × api_Record) (t_14 : Int × api_Record) (x_42 : Bool) : Option (api_Disk) :=
  if x_42 = true then (
  Option.bind (cut t_31 0 x2) fun t_361 =>
  hocketref11_WriteDisk.J4 K x0 t_7 t_14 t_361)
  else (
  hocketref11_WriteDisk.J4 K x0 t_7 t_14 t_31)
def hocketref11_WriteDisk.J2 (K : Nat) (x1 : api_Record) (x2 : Int) (x0 : api_Disk) (t_7 : Int × api_Record) (t_14 : Int × api_Record) (x_28 : Int) : Option (api_Disk) :=
  Option.bind (hocketref11_Slot.f K x_28 x1) fun t_31 =>
  if x2 ≥ 0 then (
  hocketref11_WriteDisk.J3 K t_31 x2 x0 t_7 t_14 (decide (x2 < (t_31.length : Int))))
  else (
  hocketref11_WriteDisk.J3 K t_31 x2 x0 t_7 t_14 false)
def hocketref11_WriteDisk.J1 (K : Nat) (x1 : api_Record) (x2 : Int) (x0 : api_Disk) (t_7 : Int × api_Record) (t_14 : Int × api_Record) (x_24 : Bool) : Option (api_Disk) :=
  if x_24 = true then (
  hocketref11_WriteDisk.J2 K x1 x2 x0 t_7 t_14 (w64 ((mx t_7.1 t_14.1) + 1)))
  else (
  hocketref11_WriteDisk.J2 K x1 x2 x0 t_7 t_14 1)
def hocketref11_WriteDisk.f (K : Nat) (x0 : api_Disk) (x1 : api_Record) (x2 : Int) : Option (api_Disk) :=
  Option.bind (hocketref11_slot.f K x0.A) fun t_7 =>
  Option.bind (hocketref11_slot.f K x0.B) fun t_14 =>
  if t_7.1 ≥ 0 then (
  hocketref11_WriteDisk.J1 K x1 x2 x0 t_7 t_14 true)
  else (
  hocketref11_WriteDisk.J1 K x1 x2 x0 t_7 t_14 (decide (t_14.1 ≥ 0)))

def hocketref11_SameDisk.f (x0 : api_Disk) (x1 : api_Disk) : Option (Bool) :=
  if x0.A = x1.A then (
  some (x0.B == x1.B))
  else (
  some false)

def hocketlaw13_DiskPlays.J2 (K : Nat) (x_26 : api_Disk) (x_31 : api_Disk) : Option (Unit) :=
  Option.bind (disk_Read.f K x_26) fun t_38 =>
  Option.bind (hocketref11_ReadDisk.f K x_31) fun t_45 =>
  if [t_38.1.Inc, t_38.1.Prom, t_38.1.Inst] = [t_45.1.Inc, t_45.1.Prom, t_45.1.Inst] then (
  if t_38.2 = t_45.2 then (
  Option.bind (hocketlaw13_awake.f K) fun t_55 =>
  some ())
  else (
  none))
  else (
  none)
def hocketlaw13_DiskPlays.J6 (K : Nat) (again_71 : Int × api_Disk × api_Disk → Option (Unit)) (x_60 : Int) (x_139 : api_Disk) (x_148 : api_Disk) : Option (Unit) :=
  Option.bind (hocketref11_SameDisk.f x_139 x_148) fun t_155 =>
  if t_155 = true then (
  again_71 (w64 (x_60 + 1), x_139, x_148))
  else (
  none)
def hocketlaw13_DiskPlays.J5 (K : Nat) (x_61 : api_Disk) (t_83 : Int) (t_88 : Int) (t_93 : Int) (x_60 : Int) (x_113 : Int) (x_66 : api_Disk) (again_71 : Int × api_Disk × api_Disk → Option (Unit)) (x_133 : Bool) : Option (Unit) :=
  if x_133 = true then (
  none)
  else (
  Option.bind (disk_Write.f K x_61 (⟨shr .i64 t_83 3, t_88, shr .i64 t_93 (wu64 x_60)⟩ : api_Record) x_113) fun t_163 =>
  Option.bind (hocketref11_WriteDisk.f K x_66 (⟨shr .i64 t_83 3, t_88, shr .i64 t_93 (wu64 x_60)⟩ : api_Record) x_113) fun t_175 =>
  hocketlaw13_DiskPlays.J6 K again_71 x_60 t_163 t_175)
def hocketlaw13_DiskPlays.J4 (K : Nat) (x_61 : api_Disk) (x_66 : api_Disk) (x2 : List Int) (x_60 : Int) (t_83 : Int) (t_88 : Int) (t_93 : Int) (again_71 : Int × api_Disk × api_Disk → Option (Unit)) (x_113 : Int) : Option (Unit) :=
  Option.bind (disk_Read.f K x_61) fun t_116 =>
  Option.bind (hocketref11_ReadDisk.f K x_66) fun t_123 =>
  if [t_116.1.Inc, t_116.1.Prom, t_116.1.Inst] = [t_123.1.Inc, t_123.1.Prom, t_123.1.Inst] then (
  if t_116.2 = t_123.2 then (
  Option.bind (ix x2 x_60) fun t_232 =>
  Option.bind (ix x2 x_60) fun t_237 =>
  Option.bind (disk_Slot.f K t_232 (⟨shr .i64 t_83 3, t_88, shr .i64 t_93 (wu64 x_60)⟩ : api_Record)) fun t_242 =>
  Option.bind (hocketref11_Slot.f K t_237 (⟨shr .i64 t_83 3, t_88, shr .i64 t_93 (wu64 x_60)⟩ : api_Record)) fun t_250 =>
  hocketlaw13_DiskPlays.J5 K x_61 t_83 t_88 t_93 x_60 x_113 x_66 again_71 (!(t_242 == t_250)))
  else (
  hocketlaw13_DiskPlays.J5 K x_61 t_83 t_88 t_93 x_60 x_113 x_66 again_71 true))
  else (
  hocketlaw13_DiskPlays.J5 K x_61 t_83 t_88 t_93 x_60 x_113 x_66 again_71 true)
def hocketlaw13_DiskPlays.J3 (K : Nat) (x2 : List Int) (x_60 : Int) (x3 : List Int) (x_61 : api_Disk) (x_66 : api_Disk) (again_71 : Int × api_Disk × api_Disk → Option (Unit)) (ex_71 : api_Disk × api_Disk → Option (Unit)) (x_76 : Bool) : Option (Unit) :=
  if x_76 = true then (
  Option.bind (ix x2 x_60) fun t_83 =>
  Option.bind (ix x2 x_60) fun t_88 =>
  Option.bind (ix x2 x_60) fun t_93 =>
  Option.bind (ix x3 x_60) fun t_101 =>
  Option.bind (ix x3 x_60) fun t_107 =>
  if (band .i64 t_107 3) > 0 then (
  Option.bind (ix x3 x_60) fun t_267 =>
  hocketlaw13_DiskPlays.J4 K x_61 x_66 x2 x_60 t_83 t_88 t_93 again_71 (w64 ((band .i64 (shr .i64 t_267 2) 31) - 8)))
  else (
  hocketlaw13_DiskPlays.J4 K x_61 x_66 x2 x_60 t_83 t_88 t_93 again_71 t_101))
  else (
  ex_71 (x_61, x_66))
def hocketlaw13_DiskPlays.B1 (K : Nat) (x2 : List Int) (x3 : List Int) (ex_71 : api_Disk × api_Disk → Option (Unit)) (again_71 : Int × api_Disk × api_Disk → Option (Unit)) (x_60 : Int) (x_61 : api_Disk) (x_66 : api_Disk) : Option (Unit) :=
  if x_60 < (x2.length : Int) then (
  if x_60 < (x3.length : Int) then (
  hocketlaw13_DiskPlays.J3 K x2 x_60 x3 x_61 x_66 again_71 ex_71 (decide (x_60 < 20)))
  else (
  hocketlaw13_DiskPlays.J3 K x2 x_60 x3 x_61 x_66 again_71 ex_71 false))
  else (
  hocketlaw13_DiskPlays.J3 K x2 x_60 x3 x_61 x_66 again_71 ex_71 false)
def hocketlaw13_DiskPlays.L1 (K : Nat) (x2 : List Int) (x3 : List Int) (ex_71 : api_Disk × api_Disk → Option (Unit)) : Nat → Int × api_Disk × api_Disk → Option (Unit) :=
  iter fun again v => hocketlaw13_DiskPlays.B1 K x2 x3 ex_71 again v.1 v.2.1 v.2.2
def hocketlaw13_DiskPlays.J1 (K : Nat) (x2 : List Int) (x3 : List Int) (x_14 : api_Disk) : Option (Unit) :=
  hocketlaw13_DiskPlays.L1 K x2 x3 (fun v => hocketlaw13_DiskPlays.J2 K v.1 v.2) K (0, x_14, x_14)
def hocketlaw13_DiskPlays.f (K : Nat) (x0 : api_Disk) (x1 : Bool) (x2 : List Int) (x3 : List Int) : Option (Unit) :=
  if (w64 ((x0.A.length : Int) + (x0.B.length : Int))) > 200 then (
  Option.bind (hocketlaw13_awake.f K) fun t_5 =>
  some ())
  else (
  if x1 = true then (
  hocketlaw13_DiskPlays.J1 K x2 x3 (⟨([] : List UInt8), ([] : List UInt8)⟩ : api_Disk))
  else (
  hocketlaw13_DiskPlays.J1 K x2 x3 x0))

def hocketlaw13_DiskOldOrNew.J3 (K : Nat) (x_67 : Bool) : Option (Unit) :=
  if x_67 = true then (
  some ())
  else (
  none)
def hocketlaw13_DiskOldOrNew.J4 (K : Nat) (x_81 : Bool) : Option (Unit) :=
  if x_81 = true then (
  some ())
  else (
  none)
def hocketlaw13_DiskOldOrNew.J2 (K : Nat) (x_9 : api_Disk) (x1 : Int) (x2 : Int) (x0 : List Int) (x_18 : api_Record) (x_41 : Int) : Option (Unit) :=
  Option.bind (disk_Write.f K x_9 (⟨99, band .i64 x1 16777215, band .i64 (shr .i64 x1 24) 255⟩ : api_Record) (band .i64 x2 63)) fun t_44 =>
  Option.bind (disk_Read.f K t_44) fun t_56 =>
  if (band .i64 x2 63) ≥ x_41 then (
  if t_56.2 = true then (
  if [t_56.1.Inc, t_56.1.Prom, t_56.1.Inst] = [99, band .i64 x1 16777215, band .i64 (shr .i64 x1 24) 255] then (
  Option.bind (hocketlaw13_awake.f K) fun t_73 =>
  hocketlaw13_DiskOldOrNew.J3 K true)
  else (
  hocketlaw13_DiskOldOrNew.J3 K false))
  else (
  hocketlaw13_DiskOldOrNew.J3 K false))
  else (
  if (x0.length : Int) = 0 then (
  if t_56.2 = true then (
  hocketlaw13_DiskOldOrNew.J4 K false)
  else (
  if [t_56.1.Inc, t_56.1.Prom, t_56.1.Inst] = [0, 0, 0] then (
  Option.bind (hocketlaw13_awake.f K) fun t_87 =>
  hocketlaw13_DiskOldOrNew.J4 K true)
  else (
  hocketlaw13_DiskOldOrNew.J4 K false)))
  else (
  if t_56.2 = true then (
  if [t_56.1.Inc, t_56.1.Prom, t_56.1.Inst] = [x_18.Inc, x_18.Prom, x_18.Inst] then (
  Option.bind (hocketlaw13_awake.f K) fun t_94 =>
  some ())
  else (
  none))
  else (
  none)))
def hocketlaw13_DiskOldOrNew.J1 (K : Nat) (x1 : Int) (x2 : Int) (x0 : List Int) (x_9 : api_Disk) (x_18 : api_Record) : Option (Unit) :=
  Option.bind (disk_Write.f K x_9 (⟨99, band .i64 x1 16777215, band .i64 (shr .i64 x1 24) 255⟩ : api_Record) (-1)) fun t_24 =>
  if t_24.A = x_9.A then (
  hocketlaw13_DiskOldOrNew.J2 K x_9 x1 x2 x0 x_18 (t_24.B.length : Int))
  else (
  hocketlaw13_DiskOldOrNew.J2 K x_9 x1 x2 x0 x_18 (t_24.A.length : Int))
def hocketlaw13_DiskOldOrNew.J5 (K : Nat) (x0 : List Int) (x_100 : Int) (x_101 : api_Disk) (again_111 : Int × api_Disk × api_Record → Option (Unit)) (ex_111 : api_Disk × api_Record → Option (Unit)) (x_110 : api_Record) (x_118 : Bool) : Option (Unit) :=
  if x_118 = true then (
  Option.bind (ix x0 x_100) fun t_124 =>
  Option.bind (ix x0 x_100) fun t_129 =>
  Option.bind (disk_Write.f K x_101 (⟨w64 (x_100 + 1), band .i64 t_124 65535, band .i64 (shr .i64 t_129 16) 255⟩ : api_Record) (-1)) fun t_135 =>
  again_111 (w64 (x_100 + 1), t_135, (⟨w64 (x_100 + 1), band .i64 t_124 65535, band .i64 (shr .i64 t_129 16) 255⟩ : api_Record)))
  else (
  ex_111 (x_101, x_110))
def hocketlaw13_DiskOldOrNew.B1 (K : Nat) (x0 : List Int) (ex_111 : api_Disk × api_Record → Option (Unit)) (again_111 : Int × api_Disk × api_Record → Option (Unit)) (x_100 : Int) (x_101 : api_Disk) (x_110 : api_Record) : Option (Unit) :=
  if x_100 < (x0.length : Int) then (
  hocketlaw13_DiskOldOrNew.J5 K x0 x_100 x_101 again_111 ex_111 x_110 (decide (x_100 < 10)))
  else (
  hocketlaw13_DiskOldOrNew.J5 K x0 x_100 x_101 again_111 ex_111 x_110 false)
def hocketlaw13_DiskOldOrNew.L1 (K : Nat) (x0 : List Int) (ex_111 : api_Disk × api_Record → Option (Unit)) : Nat → Int × api_Disk × api_Record → Option (Unit) :=
  iter fun again v => hocketlaw13_DiskOldOrNew.B1 K x0 ex_111 again v.1 v.2.1 v.2.2
def hocketlaw13_DiskOldOrNew.f (K : Nat) (x0 : List Int) (x1 : Int) (x2 : Int) : Option (Unit) :=
  hocketlaw13_DiskOldOrNew.L1 K x0 (fun v => hocketlaw13_DiskOldOrNew.J1 K x1 x2 x0 v.1 v.2) K (0, (⟨([] : List UInt8), ([] : List UInt8)⟩ : api_Disk), (⟨0, 0, 0⟩ : api_Record))

def keep_New.f (x0 : api_Disk) : Option ((List UInt8) × (List UInt8) × Int × Bool) :=
  Option.bind (slices_Clone_sbyte_byte.f x0.A) fun t_5 =>
  Option.bind (slices_Clone_sbyte_byte.f x0.B) fun t_13 =>
  some (t_5, t_13, (-1), false)

def keep_Keep_Put.J2 (K : Nat) (x0_d_A : List UInt8) (x0_d_B : List UInt8) (x1 : api_Record) (x0_cut : Int) (x_46 : Int) : Option (Bool × (List UInt8) × (List UInt8) × Int × Bool) :=
  Option.bind (disk_Write.f K (⟨x0_d_A, x0_d_B⟩ : api_Disk) x1 (mn x0_cut (w64 (x_46 - 1)))) fun t_51 =>
  some (false, t_51.A, t_51.B, x0_cut, true)
def keep_Keep_Put.J1 (K : Nat) (x0_d_A : List UInt8) (x0_d_B : List UInt8) (x1 : api_Record) (x0_cut : Int) (x_27 : api_Disk) : Option (Bool × (List UInt8) × (List UInt8) × Int × Bool) :=
  Option.bind (slices_Equal_sbyte_byte.f K x_27.A x0_d_A) fun t_41 =>
  if t_41 = true then (
  keep_Keep_Put.J2 K x0_d_A x0_d_B x1 x0_cut (x_27.B.length : Int))
  else (
  keep_Keep_Put.J2 K x0_d_A x0_d_B x1 x0_cut (x_27.A.length : Int))
def keep_Keep_Put.f (K : Nat) (x0_d_A : List UInt8) (x0_d_B : List UInt8) (x0_cut : Int) (x0_dead : Bool) (x1 : api_Record) : Option (Bool × (List UInt8) × (List UInt8) × Int × Bool) :=
  if x0_dead = true then (
  some (false, x0_d_A, x0_d_B, x0_cut, x0_dead))
  else (
  if x0_cut = (-1) then (
  Option.bind (disk_Write.f K (⟨x0_d_A, x0_d_B⟩ : api_Disk) x1 (-1)) fun t_9 =>
  some (true, t_9.A, t_9.B, x0_cut, x0_dead))
  else (
  Option.bind (disk_Write.f K (⟨x0_d_A, x0_d_B⟩ : api_Disk) x1 (-1)) fun t_85 =>
  keep_Keep_Put.J1 K x0_d_A x0_d_B x1 x0_cut t_85))

def keep_Keep_Cut.f (x0_d_A : List UInt8) (x0_d_B : List UInt8) (x0_cut : Int) (x0_dead : Bool) (x1 : Int) : Option ((List UInt8) × (List UInt8) × Int × Bool) :=
  some (x0_d_A, x0_d_B, mx x1 0, x0_dead)

def keep_Keep_Dead.f (x0_d_A : List UInt8) (x0_d_B : List UInt8) (x0_cut : Int) (x0_dead : Bool) : Option (Bool × (List UInt8) × (List UInt8) × Int × Bool) :=
  some (x0_dead, x0_d_A, x0_d_B, x0_cut, x0_dead)

def keep_Keep_Record.f (K : Nat) (x0_d_A : List UInt8) (x0_d_B : List UInt8) (x0_cut : Int) (x0_dead : Bool) : Option (api_Record × Bool × (List UInt8) × (List UInt8) × Int × Bool) :=
  Option.bind (disk_Read.f K (⟨x0_d_A, x0_d_B⟩ : api_Disk)) fun t_3 =>
  some (t_3.1, t_3.2, x0_d_A, x0_d_B, x0_cut, x0_dead)

def keep_Keep_Disk.f (x0_d_A : List UInt8) (x0_d_B : List UInt8) (x0_cut : Int) (x0_dead : Bool) : Option (api_Disk × (List UInt8) × (List UInt8) × Int × Bool) :=
  Option.bind (slices_Clone_sbyte_byte.f x0_d_A) fun t_5 =>
  Option.bind (slices_Clone_sbyte_byte.f x0_d_B) fun t_13 =>
  some ((⟨t_5, t_13⟩ : api_Disk), x0_d_A, x0_d_B, x0_cut, x0_dead)

def hocketlaw21_awake.f (K : Nat) : Option (Unit) :=
  Option.bind (keep_New.f (⟨([] : List UInt8), ([] : List UInt8)⟩ : api_Disk)) fun t_1 =>
  Option.bind (keep_Keep_Record.f K t_1.1 t_1.2.1 t_1.2.2.1 t_1.2.2.2) fun t_11 =>
  Option.bind (keep_Keep_Put.f K t_11.2.2.1 t_11.2.2.2.1 t_11.2.2.2.2.1 t_11.2.2.2.2.2 (⟨1, 0, 0⟩ : api_Record)) fun t_22 =>
  Option.bind (keep_Keep_Cut.f t_22.2.1 t_22.2.2.1 t_22.2.2.2.1 t_22.2.2.2.2 3) fun t_30 =>
  Option.bind (keep_Keep_Put.f K t_30.1 t_30.2.1 t_30.2.2.1 t_30.2.2.2 (⟨2, 0, 0⟩ : api_Record)) fun t_38 =>
  Option.bind (keep_Keep_Put.f K t_38.2.1 t_38.2.2.1 t_38.2.2.2.1 t_38.2.2.2.2 (⟨3, 0, 0⟩ : api_Record)) fun t_46 =>
  Option.bind (keep_Keep_Record.f K t_46.2.1 t_46.2.2.1 t_46.2.2.2.1 t_46.2.2.2.2) fun t_54 =>
  if t_11.2.1 = true then (
  none)
  else (
  if t_22.1 = true then (
  if t_38.1 = true then (
  none)
  else (
  if t_46.1 = true then (
  none)
  else (
  Option.bind (keep_Keep_Dead.f t_54.2.2.1 t_54.2.2.2.1 t_54.2.2.2.2.1 t_54.2.2.2.2.2) fun t_70 =>
  if t_70.1 = true then (
  if t_54.2.1 = true then (
  if t_54.1.Inc = 1 then (
  some ())
  else (
  none))
  else (
  none))
  else (
  none))))
  else (
  none))

def hocketlaw21_KeepCut.J2 (K : Nat) (t_55 : api_Disk × (List UInt8) × (List UInt8) × Int × Bool) (x2 : Int) (x0 : Int) (x_108 : Bool) (x_109 : keep_Keep) : Option (Unit) :=
  if x_108 = true then (
  none)
  else (
  Option.bind (keep_Keep_Record.f K x_109.d.A x_109.d.B x_109.cut x_109.dead) fun t_117 =>
  Option.bind (keep_Keep_Record.f K t_55.2.1 t_55.2.2.1 t_55.2.2.2.1 t_55.2.2.2.2) fun t_128 =>
  if t_117.2.1 = true then (
  if [t_117.1.Inc, t_117.1.Prom, t_117.1.Inst] = [2, band .i64 x2 65535, 3] then (
  if t_128.2.1 = true then (
  if [t_128.1.Inc, t_128.1.Prom, t_128.1.Inst] = [1, band .i64 x0 65535, 0] then (
  Option.bind (hocketlaw21_awake.f K) fun t_144 =>
  some ())
  else (
  none))
  else (
  none))
  else (
  none))
  else (
  none))
def hocketlaw21_KeepCut.J1 (K : Nat) (x0 : Int) (x2 : Int) (x_35 : Bool) (x_36 : keep_Keep) : Option (Unit) :=
  if x_35 = true then (
  none)
  else (
  Option.bind (keep_Keep_Record.f K x_36.d.A x_36.d.B x_36.cut x_36.dead) fun t_44 =>
  Option.bind (keep_Keep_Disk.f t_44.2.2.1 t_44.2.2.2.1 t_44.2.2.2.2.1 t_44.2.2.2.2.2) fun t_55 =>
  Option.bind (keep_New.f t_55.1) fun t_71 =>
  Option.bind (keep_Keep_Dead.f t_71.1 t_71.2.1 t_71.2.2.1 t_71.2.2.2) fun t_82 =>
  if t_82.1 = true then (
  none)
  else (
  Option.bind (keep_Keep_Record.f K t_82.2.1 t_82.2.2.1 t_82.2.2.2.1 t_82.2.2.2.2) fun t_91 =>
  if t_44.2.1 = true then (
  if [t_44.1.Inc, t_44.1.Prom, t_44.1.Inst] = [1, band .i64 x0 65535, 0] then (
  if t_91.2.1 = true then (
  if [t_91.1.Inc, t_91.1.Prom, t_91.1.Inst] = [1, band .i64 x0 65535, 0] then (
  Option.bind (keep_Keep_Put.f K t_91.2.2.1 t_91.2.2.2.1 t_91.2.2.2.2.1 t_91.2.2.2.2.2 (⟨2, band .i64 x2 65535, 3⟩ : api_Record)) fun t_152 =>
  hocketlaw21_KeepCut.J2 K t_55 x2 x0 (!t_152.1) (⟨(⟨t_152.2.1, t_152.2.2.1⟩ : api_Disk), t_152.2.2.2.1, t_152.2.2.2.2⟩ : keep_Keep))
  else (
  hocketlaw21_KeepCut.J2 K t_55 x2 x0 true (⟨(⟨t_91.2.2.1, t_91.2.2.2.1⟩ : api_Disk), t_91.2.2.2.2.1, t_91.2.2.2.2.2⟩ : keep_Keep)))
  else (
  hocketlaw21_KeepCut.J2 K t_55 x2 x0 true (⟨(⟨t_91.2.2.1, t_91.2.2.2.1⟩ : api_Disk), t_91.2.2.2.2.1, t_91.2.2.2.2.2⟩ : keep_Keep)))
  else (
  hocketlaw21_KeepCut.J2 K t_55 x2 x0 true (⟨(⟨t_91.2.2.1, t_91.2.2.2.1⟩ : api_Disk), t_91.2.2.2.2.1, t_91.2.2.2.2.2⟩ : keep_Keep)))
  else (
  hocketlaw21_KeepCut.J2 K t_55 x2 x0 true (⟨(⟨t_91.2.2.1, t_91.2.2.2.1⟩ : api_Disk), t_91.2.2.2.2.1, t_91.2.2.2.2.2⟩ : keep_Keep))))
def hocketlaw21_KeepCut.f (K : Nat) (x0 : Int) (x1 : Int) (x2 : Int) : Option (Unit) :=
  Option.bind (keep_New.f (⟨([] : List UInt8), ([] : List UInt8)⟩ : api_Disk)) fun t_1 =>
  Option.bind (keep_Keep_Put.f K t_1.1 t_1.2.1 t_1.2.2.1 t_1.2.2.2 (⟨1, band .i64 x0 65535, 0⟩ : api_Record)) fun t_15 =>
  if t_15.1 = true then (
  Option.bind (keep_Keep_Cut.f t_15.2.1 t_15.2.2.1 t_15.2.2.2.1 t_15.2.2.2.2 x1) fun t_24 =>
  Option.bind (keep_Keep_Dead.f t_24.1 t_24.2.1 t_24.2.2.1 t_24.2.2.2) fun t_160 =>
  if t_160.1 = true then (
  hocketlaw21_KeepCut.J1 K x0 x2 true (⟨(⟨t_160.2.1, t_160.2.2.1⟩ : api_Disk), t_160.2.2.2.1, t_160.2.2.2.2⟩ : keep_Keep))
  else (
  Option.bind (keep_Keep_Put.f K t_160.2.1 t_160.2.2.1 t_160.2.2.2.1 t_160.2.2.2.2 (⟨2, band .i64 x2 65535, 0⟩ : api_Record)) fun t_169 =>
  if t_169.1 = true then (
  hocketlaw21_KeepCut.J1 K x0 x2 true (⟨(⟨t_169.2.1, t_169.2.2.1⟩ : api_Disk), t_169.2.2.2.1, t_169.2.2.2.2⟩ : keep_Keep))
  else (
  Option.bind (keep_Keep_Dead.f t_169.2.1 t_169.2.2.1 t_169.2.2.2.1 t_169.2.2.2.2) fun t_178 =>
  if t_178.1 = true then (
  Option.bind (keep_Keep_Put.f K t_178.2.1 t_178.2.2.1 t_178.2.2.2.1 t_178.2.2.2.2 (⟨3, 0, 0⟩ : api_Record)) fun t_187 =>
  hocketlaw21_KeepCut.J1 K x0 x2 t_187.1 (⟨(⟨t_187.2.1, t_187.2.2.1⟩ : api_Disk), t_187.2.2.2.1, t_187.2.2.2.2⟩ : keep_Keep))
  else (
  hocketlaw21_KeepCut.J1 K x0 x2 true (⟨(⟨t_178.2.1, t_178.2.2.1⟩ : api_Disk), t_178.2.2.2.1, t_178.2.2.2.2⟩ : keep_Keep)))))
  else (
  none)

def hocketlaw21_KeepTurns.J1 (K : Nat) (x0 : List Int) (x_13 : keep_Keep) : Option (Unit) :=
  Option.bind (keep_Keep_Record.f K x_13.d.A x_13.d.B x_13.cut x_13.dead) fun t_20 =>
  if t_20.2.1 = (decide ((x0.length : Int) > 0)) then (
  Option.bind (hocketlaw21_awake.f K) fun t_33 =>
  some ())
  else (
  none)
def hocketlaw21_KeepTurns.J5 (K : Nat) (again_44 : Int × keep_Keep → Option (Unit)) (x_38 : Int) (t_136 : api_Disk × (List UInt8) × (List UInt8) × Int × Bool) : Option (Unit) :=
  again_44 (w64 (x_38 + 1), (⟨(⟨t_136.2.1, t_136.2.2.1⟩ : api_Disk), t_136.2.2.2.1, t_136.2.2.2.2⟩ : keep_Keep))
def hocketlaw21_KeepTurns.B2 (K : Nat) (t_136 : api_Disk × (List UInt8) × (List UInt8) × Int × Bool) (ex_166 : Unit → Option (Unit)) (again_166 : Int × (List UInt8) → Option (Unit)) (x_160 : Int) (x_161 : List UInt8) : Option (Unit) :=
  if x_160 < (t_136.1.A.length : Int) then (
  Option.bind (ix x_161 x_160) fun t_170 =>
  Option.bind (ix x_161 x_160) fun t_175 =>
  again_166 (w64 (x_160 + 1), (x_161.set (x_160).toNat (toU8 ((t_170.toNat : Int) + ((1 : UInt8).toNat : Int))))))
  else (
  ex_166 ())
def hocketlaw21_KeepTurns.L2 (K : Nat) (t_136 : api_Disk × (List UInt8) × (List UInt8) × Int × Bool) (ex_166 : Unit → Option (Unit)) : Nat → Int × (List UInt8) → Option (Unit) :=
  iter fun again v => hocketlaw21_KeepTurns.B2 K t_136 ex_166 again v.1 v.2
def hocketlaw21_KeepTurns.J4 (K : Nat) (t_92 : api_Disk × (List UInt8) × (List UInt8) × Int × Bool) (again_44 : Int × keep_Keep → Option (Unit)) (x_38 : Int) (x_132 : Bool) : Option (Unit) :=
  if x_132 = true then (
  none)
  else (
  Option.bind (keep_Keep_Disk.f t_92.2.1 t_92.2.2.1 t_92.2.2.2.1 t_92.2.2.2.2) fun t_136 =>
  hocketlaw21_KeepTurns.L2 K t_136 (fun v => hocketlaw21_KeepTurns.J5 K again_44 x_38 t_136) K (0, t_136.1.A))
def hocketlaw21_KeepTurns.J3 (K : Nat) (x_38 : Int) (t_56 : Int) (t_61 : Int) (again_44 : Int × keep_Keep → Option (Unit)) (x_72 : Bool) (x_73 : keep_Keep) : Option (Unit) :=
  if x_72 = true then (
  none)
  else (
  Option.bind (keep_Keep_Record.f K x_73.d.A x_73.d.B x_73.cut x_73.dead) fun t_81 =>
  Option.bind (keep_Keep_Disk.f t_81.2.2.1 t_81.2.2.2.1 t_81.2.2.2.2.1 t_81.2.2.2.2.2) fun t_92 =>
  Option.bind (keep_New.f t_92.1) fun t_108 =>
  Option.bind (keep_Keep_Record.f K t_108.1 t_108.2.1 t_108.2.2.1 t_108.2.2.2) fun t_118 =>
  if t_81.2.1 = true then (
  if [t_81.1.Inc, t_81.1.Prom, t_81.1.Inst] = [w64 (x_38 + 1), band .i64 t_56 16777215, band .i64 (shr .i64 t_61 24) 63] then (
  if t_118.2.1 = true then (
  hocketlaw21_KeepTurns.J4 K t_92 again_44 x_38 (!([t_118.1.Inc, t_118.1.Prom, t_118.1.Inst] == [w64 (x_38 + 1), band .i64 t_56 16777215, band .i64 (shr .i64 t_61 24) 63])))
  else (
  hocketlaw21_KeepTurns.J4 K t_92 again_44 x_38 true))
  else (
  hocketlaw21_KeepTurns.J4 K t_92 again_44 x_38 true))
  else (
  hocketlaw21_KeepTurns.J4 K t_92 again_44 x_38 true))
def hocketlaw21_KeepTurns.J2 (K : Nat) (x0 : List Int) (x_38 : Int) (x_39 : keep_Keep) (again_44 : Int × keep_Keep → Option (Unit)) (ex_44 : keep_Keep → Option (Unit)) (x_49 : Bool) : Option (Unit) :=
  if x_49 = true then (
  Option.bind (ix x0 x_38) fun t_56 =>
  Option.bind (ix x0 x_38) fun t_61 =>
  Option.bind (keep_Keep_Put.f K x_39.d.A x_39.d.B x_39.cut x_39.dead (⟨w64 (x_38 + 1), band .i64 t_56 16777215, band .i64 (shr .i64 t_61 24) 63⟩ : api_Record)) fun t_185 =>
  if t_185.1 = true then (
  Option.bind (keep_Keep_Dead.f t_185.2.1 t_185.2.2.1 t_185.2.2.2.1 t_185.2.2.2.2) fun t_194 =>
  hocketlaw21_KeepTurns.J3 K x_38 t_56 t_61 again_44 t_194.1 (⟨(⟨t_194.2.1, t_194.2.2.1⟩ : api_Disk), t_194.2.2.2.1, t_194.2.2.2.2⟩ : keep_Keep))
  else (
  hocketlaw21_KeepTurns.J3 K x_38 t_56 t_61 again_44 true (⟨(⟨t_185.2.1, t_185.2.2.1⟩ : api_Disk), t_185.2.2.2.1, t_185.2.2.2.2⟩ : keep_Keep)))
  else (
  ex_44 x_39)
def hocketlaw21_KeepTurns.B1 (K : Nat) (x0 : List Int) (ex_44 : keep_Keep → Option (Unit)) (again_44 : Int × keep_Keep → Option (Unit)) (x_38 : Int) (x_39 : keep_Keep) : Option (Unit) :=
  if x_38 < (x0.length : Int) then (
  hocketlaw21_KeepTurns.J2 K x0 x_38 x_39 again_44 ex_44 (decide (x_38 < 20)))
  else (
  hocketlaw21_KeepTurns.J2 K x0 x_38 x_39 again_44 ex_44 false)
def hocketlaw21_KeepTurns.L1 (K : Nat) (x0 : List Int) (ex_44 : keep_Keep → Option (Unit)) : Nat → Int × keep_Keep → Option (Unit) :=
  iter fun again v => hocketlaw21_KeepTurns.B1 K x0 ex_44 again v.1 v.2
def hocketlaw21_KeepTurns.f (K : Nat) (x0 : List Int) : Option (Unit) :=
  Option.bind (keep_New.f (⟨([] : List UInt8), ([] : List UInt8)⟩ : api_Disk)) fun t_1 =>
  hocketlaw21_KeepTurns.L1 K x0 (fun v => hocketlaw21_KeepTurns.J1 K x0 v) K (0, (⟨(⟨t_1.1, t_1.2.1⟩ : api_Disk), t_1.2.2.1, t_1.2.2.2⟩ : keep_Keep))

def hocketlaw21_KeepPlays.J2 (K : Nat) (x_25 : api_Disk) (x_30 : keep_Keep) : Option (Unit) :=
  Option.bind (keep_Keep_Disk.f x_30.d.A x_30.d.B x_30.cut x_30.dead) fun t_37 =>
  Option.bind (disk_Read.f K t_37.1) fun t_53 =>
  Option.bind (hocketref11_ReadDisk.f K x_25) fun t_60 =>
  if t_53.2 = t_60.2 then (
  Option.bind (hocketlaw21_awake.f K) fun t_69 =>
  some ())
  else (
  none)
def hocketlaw21_KeepPlays.J5 (K : Nat) (again_87 : Int × Bool × Int × api_Disk × keep_Keep → Option (Unit)) (x_104 : Int) (x_105 : Bool) (x_76 : Int) (x_106 : api_Disk) (x_138 : Bool) (x_139 : keep_Keep) : Option (Unit) :=
  if x_138 = true then (
  none)
  else (
  again_87 (x_104, x_105, w64 (x_76 + 1), x_106, x_139))
def hocketlaw21_KeepPlays.J4 (K : Nat) (again_87 : Int × Bool × Int × api_Disk × keep_Keep → Option (Unit)) (x_76 : Int) (x_104 : Int) (x_105 : Bool) (x_106 : api_Disk) (x_111 : keep_Keep) : Option (Unit) :=
  Option.bind (keep_Keep_Record.f K x_111.d.A x_111.d.B x_111.cut x_111.dead) fun t_118 =>
  Option.bind (hocketref11_ReadDisk.f K x_106) fun t_129 =>
  Option.bind (keep_Keep_Disk.f t_118.2.2.1 t_118.2.2.2.1 t_118.2.2.2.2.1 t_118.2.2.2.2.2) fun t_148 =>
  Option.bind (hocketref11_SameDisk.f t_148.1 x_106) fun t_164 =>
  if t_164 = true then (
  Option.bind (keep_Keep_Dead.f t_148.2.1 t_148.2.2.1 t_148.2.2.2.1 t_148.2.2.2.2) fun t_169 =>
  if t_169.1 = x_105 then (
  if [t_118.1.Inc, t_118.1.Prom, t_118.1.Inst] = [t_129.1.Inc, t_129.1.Prom, t_129.1.Inst] then (
  hocketlaw21_KeepPlays.J5 K again_87 x_104 x_105 x_76 x_106 (!(t_118.2.1 == t_129.2)) (⟨(⟨t_169.2.1, t_169.2.2.1⟩ : api_Disk), t_169.2.2.2.1, t_169.2.2.2.2⟩ : keep_Keep))
  else (
  hocketlaw21_KeepPlays.J5 K again_87 x_104 x_105 x_76 x_106 true (⟨(⟨t_169.2.1, t_169.2.2.1⟩ : api_Disk), t_169.2.2.2.1, t_169.2.2.2.2⟩ : keep_Keep)))
  else (
  hocketlaw21_KeepPlays.J5 K again_87 x_104 x_105 x_76 x_106 true (⟨(⟨t_169.2.1, t_169.2.2.1⟩ : api_Disk), t_169.2.2.2.1, t_169.2.2.2.2⟩ : keep_Keep)))
  else (
  hocketlaw21_KeepPlays.J5 K again_87 x_104 x_105 x_76 x_106 true (⟨(⟨t_148.2.1, t_148.2.2.1⟩ : api_Disk), t_148.2.2.2.1, t_148.2.2.2.2⟩ : keep_Keep))
def hocketlaw21_KeepPlays.J7 (K : Nat) (x_77 : api_Disk) (t_195 : Int) (x_76 : Int) (t_200 : Int) (again_87 : Int × Bool × Int × api_Disk × keep_Keep → Option (Unit)) (x_74 : Int) (t_214 : Bool × (List UInt8) × (List UInt8) × Int × Bool) (x_226 : Bool) (x_227 : Int) : Option (Unit) :=
  Option.bind (hocketref11_WriteDisk.f K x_77 (⟨shr .i64 t_195 3, x_76, shr .i64 t_200 9⟩ : api_Record) x_227) fun t_230 =>
  hocketlaw21_KeepPlays.J4 K again_87 x_76 x_74 x_226 t_230 (⟨(⟨t_214.2.1, t_214.2.2.1⟩ : api_Disk), t_214.2.2.2.1, t_214.2.2.2.2⟩ : keep_Keep)
def hocketlaw21_KeepPlays.J8 (K : Nat) (x_77 : api_Disk) (t_195 : Int) (x_76 : Int) (t_200 : Int) (again_87 : Int × Bool × Int × api_Disk × keep_Keep → Option (Unit)) (x_74 : Int) (t_214 : Bool × (List UInt8) × (List UInt8) × Int × Bool) (x_253 : Int) : Option (Unit) :=
  hocketlaw21_KeepPlays.J7 K x_77 t_195 x_76 t_200 again_87 x_74 t_214 true (mn x_74 (w64 (x_253 - 1)))
def hocketlaw21_KeepPlays.J6 (K : Nat) (x_82 : keep_Keep) (t_195 : Int) (x_76 : Int) (t_200 : Int) (x_75 : Bool) (again_87 : Int × Bool × Int × api_Disk × keep_Keep → Option (Unit)) (x_74 : Int) (x_77 : api_Disk) (x_210 : Bool) : Option (Unit) :=
  Option.bind (keep_Keep_Put.f K x_82.d.A x_82.d.B x_82.cut x_82.dead (⟨shr .i64 t_195 3, x_76, shr .i64 t_200 9⟩ : api_Record)) fun t_214 =>
  if t_214.1 = x_210 then (
  if x_75 = true then (
  hocketlaw21_KeepPlays.J4 K again_87 x_76 x_74 x_75 x_77 (⟨(⟨t_214.2.1, t_214.2.2.1⟩ : api_Disk), t_214.2.2.2.1, t_214.2.2.2.2⟩ : keep_Keep))
  else (
  if x_74 ≥ 0 then (
  Option.bind (hocketref11_WriteDisk.f K x_77 (⟨shr .i64 t_195 3, x_76, shr .i64 t_200 9⟩ : api_Record) (-1)) fun t_240 =>
  if t_240.A = x_77.A then (
  hocketlaw21_KeepPlays.J8 K x_77 t_195 x_76 t_200 again_87 x_74 t_214 (t_240.B.length : Int))
  else (
  hocketlaw21_KeepPlays.J8 K x_77 t_195 x_76 t_200 again_87 x_74 t_214 (t_240.A.length : Int)))
  else (
  hocketlaw21_KeepPlays.J7 K x_77 t_195 x_76 t_200 again_87 x_74 t_214 x_75 x_74)))
  else (
  none)
def hocketlaw21_KeepPlays.J3 (K : Nat) (x1 : List Int) (x_76 : Int) (x_82 : keep_Keep) (again_87 : Int × Bool × Int × api_Disk × keep_Keep → Option (Unit)) (x_75 : Bool) (x_77 : api_Disk) (x_74 : Int) (ex_87 : api_Disk × keep_Keep → Option (Unit)) (x_92 : Bool) : Option (Unit) :=
  if x_92 = true then (
  Option.bind (ix x1 x_76) fun t_98 =>
  if (band .i64 t_98 7) = 0 then (
  Option.bind (ix x1 x_76) fun t_180 =>
  Option.bind (keep_Keep_Cut.f x_82.d.A x_82.d.B x_82.cut x_82.dead (w64 ((band .i64 (shr .i64 t_180 3) 63) - 5))) fun t_185 =>
  hocketlaw21_KeepPlays.J4 K again_87 x_76 (mx (w64 ((band .i64 (shr .i64 t_180 3) 63) - 5)) 0) x_75 x_77 (⟨(⟨t_185.1, t_185.2.1⟩ : api_Disk), t_185.2.2.1, t_185.2.2.2⟩ : keep_Keep))
  else (
  Option.bind (ix x1 x_76) fun t_195 =>
  Option.bind (ix x1 x_76) fun t_200 =>
  if x_75 = true then (
  hocketlaw21_KeepPlays.J6 K x_82 t_195 x_76 t_200 x_75 again_87 x_74 x_77 false)
  else (
  hocketlaw21_KeepPlays.J6 K x_82 t_195 x_76 t_200 x_75 again_87 x_74 x_77 (decide (x_74 < 0)))))
  else (
  ex_87 (x_77, x_82))
def hocketlaw21_KeepPlays.B1 (K : Nat) (x1 : List Int) (ex_87 : api_Disk × keep_Keep → Option (Unit)) (again_87 : Int × Bool × Int × api_Disk × keep_Keep → Option (Unit)) (x_74 : Int) (x_75 : Bool) (x_76 : Int) (x_77 : api_Disk) (x_82 : keep_Keep) : Option (Unit) :=
  if x_76 < (x1.length : Int) then (
  hocketlaw21_KeepPlays.J3 K x1 x_76 x_82 again_87 x_75 x_77 x_74 ex_87 (decide (x_76 < 30)))
  else (
  hocketlaw21_KeepPlays.J3 K x1 x_76 x_82 again_87 x_75 x_77 x_74 ex_87 false)
def hocketlaw21_KeepPlays.L1 (K : Nat) (x1 : List Int) (ex_87 : api_Disk × keep_Keep → Option (Unit)) : Nat → Int × Bool × Int × api_Disk × keep_Keep → Option (Unit) :=
  iter fun again v => hocketlaw21_KeepPlays.B1 K x1 ex_87 again v.1 v.2.1 v.2.2.1 v.2.2.2.1 v.2.2.2.2
def hocketlaw21_KeepPlays.J1 (K : Nat) (x1 : List Int) (x_6 : api_Disk) : Option (Unit) :=
  Option.bind (keep_New.f x_6) fun t_13 =>
  hocketlaw21_KeepPlays.L1 K x1 (fun v => hocketlaw21_KeepPlays.J2 K v.1 v.2) K ((-1), false, 0, x_6, (⟨(⟨t_13.1, t_13.2.1⟩ : api_Disk), t_13.2.2.1, t_13.2.2.2⟩ : keep_Keep))
def hocketlaw21_KeepPlays.J9 (K : Nat) (x0 : List Int) (x_260 : Int) (x_261 : api_Disk) (again_266 : Int × api_Disk → Option (Unit)) (ex_266 : api_Disk → Option (Unit)) (x_271 : Bool) : Option (Unit) :=
  if x_271 = true then (
  Option.bind (ix x0 x_260) fun t_277 =>
  Option.bind (hocketref11_WriteDisk.f K x_261 (⟨t_277, 0, 0⟩ : api_Record) (-1)) fun t_282 =>
  again_266 (w64 (x_260 + 1), t_282))
  else (
  ex_266 x_261)
def hocketlaw21_KeepPlays.B2 (K : Nat) (x0 : List Int) (ex_266 : api_Disk → Option (Unit)) (again_266 : Int × api_Disk → Option (Unit)) (x_260 : Int) (x_261 : api_Disk) : Option (Unit) :=
  if x_260 < (x0.length : Int) then (
  hocketlaw21_KeepPlays.J9 K x0 x_260 x_261 again_266 ex_266 (decide (x_260 < 5)))
  else (
  hocketlaw21_KeepPlays.J9 K x0 x_260 x_261 again_266 ex_266 false)
def hocketlaw21_KeepPlays.L2 (K : Nat) (x0 : List Int) (ex_266 : api_Disk → Option (Unit)) : Nat → Int × api_Disk → Option (Unit) :=
  iter fun again v => hocketlaw21_KeepPlays.B2 K x0 ex_266 again v.1 v.2
def hocketlaw21_KeepPlays.f (K : Nat) (x0 : List Int) (x1 : List Int) : Option (Unit) :=
  hocketlaw21_KeepPlays.L2 K x0 (fun v => hocketlaw21_KeepPlays.J1 K x1 v) K (0, (⟨([] : List UInt8), ([] : List UInt8)⟩ : api_Disk))
end Go.Gp
