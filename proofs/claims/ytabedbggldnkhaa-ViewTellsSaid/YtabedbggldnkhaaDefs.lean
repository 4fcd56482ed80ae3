/- The functions that the law reaches, told plainly. -/
import Derived.Test.YtabedbggldnkhaaLa
namespace Go.Gp
set_option linter.unusedVariables false
structure api_Cmd where
  Kind : Int
  Who : Int
  Key : List UInt8
  Val : List UInt8
  Old : List UInt8
  deriving DecidableEq
structure api_Entry where
  Sess : Int
  Seq : Int
  Cmd : api_Cmd
  deriving DecidableEq
structure api_Msg where
  Kind : Int
  From : Int
  To : Int
  View : Int
  Inst : Int
  Len : Int
  Has : Bool
  Members : Int
  Source : Int
  At : Int
  Total : Int
  Data : List UInt8
  Hop : Int
  Seq : Int
  Have : List Int
  Need : List Int
  Index : Int
  Entry : api_Entry
  deriving DecidableEq
structure gath_Gather where
  n : Int
  id : Int
  v : Int
  l : List api_Msg
  come : Int
  ready : Int
  commit : api_Msg
  is : Bool
  deriving DecidableEq
structure An_l_mask_source_n_ok where
  l : List api_Msg
  mask : Int
  source : Int
  n : Int
  ok : Bool
  deriving DecidableEq
structure An_t_place_whole_fresh_has_missing_seq_safe_room_have_need_again where
  t : api_Msg
  place : Int
  whole : Int
  fresh : Int
  has : List Int
  missing : List Int
  seq : Int
  safe : Int
  room : Int
  have_ : List Int
  need : List Int
  again : List Int
  deriving DecidableEq
structure hocketref15_Gather where
  n : Int
  id : Int
  v : Int
  l : List api_Msg
  commit : api_Msg
  sure : Bool
  ready : Int
  deriving DecidableEq
def ok_api_Cmd (x : api_Cmd) : Prop := i64ok x.Kind ∧ i64ok x.Who ∧ (x.Key.length ≤ 140737488351232 ∧ ∀ z ∈ x.Key, True) ∧ (x.Val.length ≤ 140737488351232 ∧ ∀ z ∈ x.Val, True) ∧ (x.Old.length ≤ 140737488351232 ∧ ∀ z ∈ x.Old, True)
def ok_api_Entry (x : api_Entry) : Prop := i64ok x.Sess ∧ i64ok x.Seq ∧ ok_api_Cmd x.Cmd
def ok_api_Msg (x : api_Msg) : Prop := i64ok x.Kind ∧ i64ok x.From ∧ i64ok x.To ∧ i64ok x.View ∧ i64ok x.Inst ∧ i64ok x.Len ∧ True ∧ i64ok x.Members ∧ i64ok x.Source ∧ i64ok x.At ∧ i64ok x.Total ∧ (x.Data.length ≤ 140737488351232 ∧ ∀ z ∈ x.Data, True) ∧ i64ok x.Hop ∧ i64ok x.Seq ∧ (x.Have.length ≤ 140737488351232 ∧ ∀ z ∈ x.Have, i64ok z) ∧ (x.Need.length ≤ 140737488351232 ∧ ∀ z ∈ x.Need, i64ok z) ∧ i64ok x.Index ∧ ok_api_Entry x.Entry
def ok_gath_Gather (x : gath_Gather) : Prop := i64ok x.n ∧ i64ok x.id ∧ i64ok x.v ∧ (x.l.length ≤ 140737488351232 ∧ ∀ z ∈ x.l, ok_api_Msg z) ∧ i64ok x.come ∧ i64ok x.ready ∧ ok_api_Msg x.commit ∧ True
def ok_An_l_mask_source_n_ok (x : An_l_mask_source_n_ok) : Prop := (x.l.length ≤ 140737488351232 ∧ ∀ z ∈ x.l, ok_api_Msg z) ∧ i64ok x.mask ∧ i64ok x.source ∧ i64ok x.n ∧ True
def ok_An_t_place_whole_fresh_has_missing_seq_safe_room_have_need_again (x : An_t_place_whole_fresh_has_missing_seq_safe_room_have_need_again) : Prop := ok_api_Msg x.t ∧ i64ok x.place ∧ i64ok x.whole ∧ i64ok x.fresh ∧ (x.has.length ≤ 140737488351232 ∧ ∀ z ∈ x.has, i64ok z) ∧ (x.missing.length ≤ 140737488351232 ∧ ∀ z ∈ x.missing, i64ok z) ∧ i64ok x.seq ∧ i64ok x.safe ∧ i64ok x.room ∧ (x.have_.length ≤ 140737488351232 ∧ ∀ z ∈ x.have_, i64ok z) ∧ (x.need.length ≤ 140737488351232 ∧ ∀ z ∈ x.need, i64ok z) ∧ (x.again.length ≤ 140737488351232 ∧ ∀ z ∈ x.again, i64ok z)
def ok_hocketref15_Gather (x : hocketref15_Gather) : Prop := i64ok x.n ∧ i64ok x.id ∧ i64ok x.v ∧ (x.l.length ≤ 140737488351232 ∧ ∀ z ∈ x.l, ok_api_Msg z) ∧ ok_api_Msg x.commit ∧ True ∧ i64ok x.ready
def bits_OnesCount64.f (x0 : Int) : Option (Int) :=
  some (band .i64 (w64 (wu64 ((wu64 ((wu64 ((band .u64 (wu64 ((shr .u64 (wu64 ((band .u64 (shr .u64 (wu64 ((band .u64 (shr .u64 x0 1) 6148914691236517205) + (band .u64 x0 6148914691236517205))) 2) 3689348814741910323) + (band .u64 (wu64 ((band .u64 (shr .u64 x0 1) 6148914691236517205) + (band .u64 x0 6148914691236517205))) 3689348814741910323))) 4) + (wu64 ((band .u64 (shr .u64 (wu64 ((band .u64 (shr .u64 x0 1) 6148914691236517205) + (band .u64 x0 6148914691236517205))) 2) 3689348814741910323) + (band .u64 (wu64 ((band .u64 (shr .u64 x0 1) 6148914691236517205) + (band .u64 x0 6148914691236517205))) 3689348814741910323))))) 1085102592571150095) + (shr .u64 (band .u64 (wu64 ((shr .u64 (wu64 ((band .u64 (shr .u64 (wu64 ((band .u64 (shr .u64 x0 1) 6148914691236517205) + (band .u64 x0 6148914691236517205))) 2) 3689348814741910323) + (band .u64 (wu64 ((band .u64 (shr .u64 x0 1) 6148914691236517205) + (band .u64 x0 6148914691236517205))) 3689348814741910323))) 4) + (wu64 ((band .u64 (shr .u64 (wu64 ((band .u64 (shr .u64 x0 1) 6148914691236517205) + (band .u64 x0 6148914691236517205))) 2) 3689348814741910323) + (band .u64 (wu64 ((band .u64 (shr .u64 x0 1) 6148914691236517205) + (band .u64 x0 6148914691236517205))) 3689348814741910323))))) 1085102592571150095) 8))) + (shr .u64 (wu64 ((band .u64 (wu64 ((shr .u64 (wu64 ((band .u64 (shr .u64 (wu64 ((band .u64 (shr .u64 x0 1) 6148914691236517205) + (band .u64 x0 6148914691236517205))) 2) 3689348814741910323) + (band .u64 (wu64 ((band .u64 (shr .u64 x0 1) 6148914691236517205) + (band .u64 x0 6148914691236517205))) 3689348814741910323))) 4) + (wu64 ((band .u64 (shr .u64 (wu64 ((band .u64 (shr .u64 x0 1) 6148914691236517205) + (band .u64 x0 6148914691236517205))) 2) 3689348814741910323) + (band .u64 (wu64 ((band .u64 (shr .u64 x0 1) 6148914691236517205) + (band .u64 x0 6148914691236517205))) 3689348814741910323))))) 1085102592571150095) + (shr .u64 (band .u64 (wu64 ((shr .u64 (wu64 ((band .u64 (shr .u64 (wu64 ((band .u64 (shr .u64 x0 1) 6148914691236517205) + (band .u64 x0 6148914691236517205))) 2) 3689348814741910323) + (band .u64 (wu64 ((band .u64 (shr .u64 x0 1) 6148914691236517205) + (band .u64 x0 6148914691236517205))) 3689348814741910323))) 4) + (wu64 ((band .u64 (shr .u64 (wu64 ((band .u64 (shr .u64 x0 1) 6148914691236517205) + (band .u64 x0 6148914691236517205))) 2) 3689348814741910323) + (band .u64 (wu64 ((band .u64 (shr .u64 x0 1) 6148914691236517205) + (band .u64 x0 6148914691236517205))) 3689348814741910323))))) 1085102592571150095) 8))) 16))) + (shr .u64 (wu64 ((wu64 ((band .u64 (wu64 ((shr .u64 (wu64 ((band .u64 (shr .u64 (wu64 ((band .u64 (shr .u64 x0 1) 6148914691236517205) + (band .u64 x0 6148914691236517205))) 2) 3689348814741910323) + (band .u64 (wu64 ((band .u64 (shr .u64 x0 1) 6148914691236517205) + (band .u64 x0 6148914691236517205))) 3689348814741910323))) 4) + (wu64 ((band .u64 (shr .u64 (wu64 ((band .u64 (shr .u64 x0 1) 6148914691236517205) + (band .u64 x0 6148914691236517205))) 2) 3689348814741910323) + (band .u64 (wu64 ((band .u64 (shr .u64 x0 1) 6148914691236517205) + (band .u64 x0 6148914691236517205))) 3689348814741910323))))) 1085102592571150095) + (shr .u64 (band .u64 (wu64 ((shr .u64 (wu64 ((band .u64 (shr .u64 (wu64 ((band .u64 (shr .u64 x0 1) 6148914691236517205) + (band .u64 x0 6148914691236517205))) 2) 3689348814741910323) + (band .u64 (wu64 ((band .u64 (shr .u64 x0 1) 6148914691236517205) + (band .u64 x0 6148914691236517205))) 3689348814741910323))) 4) + (wu64 ((band .u64 (shr .u64 (wu64 ((band .u64 (shr .u64 x0 1) 6148914691236517205) + (band .u64 x0 6148914691236517205))) 2) 3689348814741910323) + (band .u64 (wu64 ((band .u64 (shr .u64 x0 1) 6148914691236517205) + (band .u64 x0 6148914691236517205))) 3689348814741910323))))) 1085102592571150095) 8))) + (shr .u64 (wu64 ((band .u64 (wu64 ((shr .u64 (wu64 ((band .u64 (shr .u64 (wu64 ((band .u64 (shr .u64 x0 1) 6148914691236517205) + (band .u64 x0 6148914691236517205))) 2) 3689348814741910323) + (band .u64 (wu64 ((band .u64 (shr .u64 x0 1) 6148914691236517205) + (band .u64 x0 6148914691236517205))) 3689348814741910323))) 4) + (wu64 ((band .u64 (shr .u64 (wu64 ((band .u64 (shr .u64 x0 1) 6148914691236517205) + (band .u64 x0 6148914691236517205))) 2) 3689348814741910323) + (band .u64 (wu64 ((band .u64 (shr .u64 x0 1) 6148914691236517205) + (band .u64 x0 6148914691236517205))) 3689348814741910323))))) 1085102592571150095) + (shr .u64 (band .u64 (wu64 ((shr .u64 (wu64 ((band .u64 (shr .u64 (wu64 ((band .u64 (shr .u64 x0 1) 6148914691236517205) + (band .u64 x0 6148914691236517205))) 2) 3689348814741910323) + (band .u64 (wu64 ((band .u64 (shr .u64 x0 1) 6148914691236517205) + (band .u64 x0 6148914691236517205))) 3689348814741910323))) 4) + (wu64 ((band .u64 (shr .u64 (wu64 ((band .u64 (shr .u64 x0 1) 6148914691236517205) + (band .u64 x0 6148914691236517205))) 2) 3689348814741910323) + (band .u64 (wu64 ((band .u64 (shr .u64 x0 1) 6148914691236517205) + (band .u64 x0 6148914691236517205))) 3689348814741910323))))) 1085102592571150095) 8))) 16))) 32)))) 127)

def bits_OnesCount.f (x0 : Int) : Option (Int) :=
  Option.bind (bits_OnesCount64.f x0) fun t_2 =>
  some t_2

def view_Most.f (x0 : Int) (x1 : Int) : Option (Bool) :=
  if x0 ≥ 0 then (
  Option.bind (must (0 ≤ (mn (mx x1 1) 7))) fun u_3 =>
  if x0 < (shl .i64 1 (mn (mx x1 1) 7)) then (
  Option.bind (bits_OnesCount.f (wu64 x0)) fun t_5 =>
  some (decide ((w64 (2 * t_5)) > (mn (mx x1 1) 7))))
  else (
  some false))
  else (
  some false)

def view_firsts.J1 (K : Nat) (x_3 : List api_Msg) : Option ((List api_Msg)) :=
  some x_3
def view_firsts.J2 (K : Nat) (again_18 : (List api_Msg) × Int × Int → Option ((List api_Msg))) (x_11 : List api_Msg) (x_16 : Int) (x_17 : Int) (t_23 : api_Msg) (x_46 : Bool) : Option ((List api_Msg)) :=
  if x_46 = true then (
  again_18 (x_11, x_16, w64 (x_17 + 1)))
  else (
  Option.bind (must (0 ≤ t_23.From)) fun u_50 =>
  Option.bind (app 488671834567 x_11 ([t_23] : List api_Msg)) fun t_57 =>
  again_18 (t_57, bor .i64 x_16 (shl .i64 1 t_23.From), w64 (x_17 + 1)))
def view_firsts.B1 (K : Nat) (x0 : List api_Msg) (x1 : Int) (ex_18 : (List api_Msg) → Option ((List api_Msg))) (again_18 : (List api_Msg) × Int × Int → Option ((List api_Msg))) (x_11 : List api_Msg) (x_16 : Int) (x_17 : Int) : Option ((List api_Msg)) :=
  if x_17 < (x0.length : Int) then (
  Option.bind (ix x0 x_17) fun t_23 =>
  if t_23.Kind = 2 then (
  if t_23.From < 0 then (
  view_firsts.J2 K again_18 x_11 x_16 x_17 t_23 true)
  else (
  if t_23.From ≥ (mn (mx x1 1) 7) then (
  view_firsts.J2 K again_18 x_11 x_16 x_17 t_23 true)
  else (
  Option.bind (must (0 ≤ t_23.From)) fun u_66 =>
  view_firsts.J2 K again_18 x_11 x_16 x_17 t_23 ((band .i64 (shr .i64 x_16 t_23.From) 1) == 1))))
  else (
  view_firsts.J2 K again_18 x_11 x_16 x_17 t_23 true))
  else (
  ex_18 x_11)
def view_firsts.L1 (K : Nat) (x0 : List api_Msg) (x1 : Int) (ex_18 : (List api_Msg) → Option ((List api_Msg))) : Nat → (List api_Msg) × Int × Int → Option ((List api_Msg)) :=
  iter fun again v => view_firsts.B1 K x0 x1 ex_18 again v.1 v.2.1 v.2.2
def view_firsts.f (K : Nat) (x0 : List api_Msg) (x1 : Int) : Option ((List api_Msg)) :=
  view_firsts.L1 K x0 x1 (fun v => view_firsts.J1 K v) K (([] : List api_Msg), 0, 0)

def view_better.f (x0 : api_Msg) (x1 : api_Msg) : Option (Bool) :=
  if x0.Len > x1.Len then (
  some true)
  else (
  if x0.Len = x1.Len then (
  some (decide (x0.From < x1.From)))
  else (
  some false))

def view_Choose.J3 (K : Nat) (x_12 : Int) (x_21 : api_Msg) (x_39 : Bool) : Option (Int × Int × Int × Bool) :=
  if x_39 = true then (
  some (0, 0, 0, false))
  else (
  some (x_12, x_21.From, x_21.Len, true))
def view_Choose.J2 (K : Nat) (x_12 : Int) (x1 : Int) (x_20 : Bool) (x_21 : api_Msg) : Option (Int × Int × Int × Bool) :=
  if x_20 = true then (
  Option.bind (view_Most.f x_12 x1) fun t_46 =>
  view_Choose.J3 K x_12 x_21 (!t_46))
  else (
  view_Choose.J3 K x_12 x_21 true)
def view_Choose.J4 (K : Nat) (again_66 : Bool × Int × api_Msg → Option (Int × Int × Int × Bool)) (x_52 : Int) (t_71 : api_Msg) (x_51 : Bool) (x_53 : api_Msg) (x_93 : Bool) : Option (Int × Int × Int × Bool) :=
  if x_93 = true then (
  again_66 (true, w64 (x_52 + 1), t_71))
  else (
  again_66 (x_51, w64 (x_52 + 1), x_53))
def view_Choose.B1 (K : Nat) (t_1 : (List api_Msg)) (x_13 : Int) (ex_66 : Bool × api_Msg → Option (Int × Int × Int × Bool)) (again_66 : Bool × Int × api_Msg → Option (Int × Int × Int × Bool)) (x_51 : Bool) (x_52 : Int) (x_53 : api_Msg) : Option (Int × Int × Int × Bool) :=
  if x_52 < (t_1.length : Int) then (
  Option.bind (ix t_1 x_52) fun t_71 =>
  if t_71.Has = true then (
  if t_71.Inst = x_13 then (
  if x_51 = true then (
  Option.bind (view_better.f t_71 x_53) fun t_101 =>
  view_Choose.J4 K again_66 x_52 t_71 x_51 x_53 t_101)
  else (
  view_Choose.J4 K again_66 x_52 t_71 x_51 x_53 true))
  else (
  view_Choose.J4 K again_66 x_52 t_71 x_51 x_53 false))
  else (
  view_Choose.J4 K again_66 x_52 t_71 x_51 x_53 false))
  else (
  ex_66 (x_51, x_53))
def view_Choose.L1 (K : Nat) (t_1 : (List api_Msg)) (x_13 : Int) (ex_66 : Bool × api_Msg → Option (Int × Int × Int × Bool)) : Nat → Bool × Int × api_Msg → Option (Int × Int × Int × Bool) :=
  iter fun again v => view_Choose.B1 K t_1 x_13 ex_66 again v.1 v.2.1 v.2.2
def view_Choose.J1 (K : Nat) (t_1 : (List api_Msg)) (x1 : Int) (x_12 : Int) (x_13 : Int) : Option (Int × Int × Int × Bool) :=
  view_Choose.L1 K t_1 x_13 (fun v => view_Choose.J2 K x_12 x1 v.1 v.2) K (false, 0, (⟨0, 0, 0, 0, 0, 0, false, 0, 0, 0, 0, ([] : List UInt8), 0, 0, ([] : List Int), ([] : List Int), 0, (⟨0, 0, (⟨0, 0, ([] : List UInt8), ([] : List UInt8), ([] : List UInt8)⟩ : api_Cmd)⟩ : api_Entry)⟩ : api_Msg))
def view_Choose.J5 (K : Nat) (again_109 : Int × Int × Int → Option (Int × Int × Int × Bool)) (x_106 : Int) (t_114 : api_Msg) (x_108 : Int) (x_107 : Int) (x_137 : Bool) : Option (Int × Int × Int × Bool) :=
  if x_137 = true then (
  again_109 (bor .i64 x_106 (shl .i64 1 t_114.From), t_114.Inst, w64 (x_108 + 1)))
  else (
  again_109 (bor .i64 x_106 (shl .i64 1 t_114.From), x_107, w64 (x_108 + 1)))
def view_Choose.B2 (K : Nat) (t_1 : (List api_Msg)) (ex_109 : Int × Int → Option (Int × Int × Int × Bool)) (again_109 : Int × Int × Int → Option (Int × Int × Int × Bool)) (x_106 : Int) (x_107 : Int) (x_108 : Int) : Option (Int × Int × Int × Bool) :=
  if x_108 < (t_1.length : Int) then (
  Option.bind (ix t_1 x_108) fun t_114 =>
  Option.bind (must (0 ≤ t_114.From)) fun u_134 =>
  if x_108 = 0 then (
  view_Choose.J5 K again_109 x_106 t_114 x_108 x_107 true)
  else (
  view_Choose.J5 K again_109 x_106 t_114 x_108 x_107 (decide (t_114.Inst > x_107))))
  else (
  ex_109 (x_106, x_107))
def view_Choose.L2 (K : Nat) (t_1 : (List api_Msg)) (ex_109 : Int × Int → Option (Int × Int × Int × Bool)) : Nat → Int × Int × Int → Option (Int × Int × Int × Bool) :=
  iter fun again v => view_Choose.B2 K t_1 ex_109 again v.1 v.2.1 v.2.2
def view_Choose.f (K : Nat) (x0 : List api_Msg) (x1 : Int) : Option (Int × Int × Int × Bool) :=
  Option.bind (view_firsts.f K x0 x1) fun t_1 =>
  view_Choose.L2 K t_1 (fun v => view_Choose.J1 K t_1 x1 v.1 v.2) K (0, 0, 0)

def view_Members.J1 (K : Nat) (x_3 : List Int) : Option ((List Int)) :=
  some x_3
def view_Members.B1 (K : Nat) (x0 : Int) (ex_17 : (List Int) → Option ((List Int))) (again_17 : (List Int) × Int → Option ((List Int))) (x_11 : List Int) (x_16 : Int) : Option ((List Int)) :=
  if x_16 < 7 then (
  Option.bind (must (0 ≤ x_16)) fun u_23 =>
  if (band .i64 (shr .i64 x0 x_16) 1) = 1 then (
  Option.bind (app 17592186044416 x_11 ([x_16] : List Int)) fun t_31 =>
  again_17 (t_31, w64 (x_16 + 1)))
  else (
  again_17 (x_11, w64 (x_16 + 1))))
  else (
  ex_17 x_11)
def view_Members.L1 (K : Nat) (x0 : Int) (ex_17 : (List Int) → Option ((List Int))) : Nat → (List Int) × Int → Option ((List Int)) :=
  iter fun again v => view_Members.B1 K x0 ex_17 again v.1 v.2
def view_Members.f (K : Nat) (x0 : Int) : Option ((List Int)) :=
  view_Members.L1 K x0 (fun v => view_Members.J1 K v) K (([] : List Int), 0)

def view_node.f (x0 : Int) : Option (Int) :=
  some (mn (mx x0 0) 6)

def view_Limit.f (x0 : Int) : Option (Int) :=
  Option.bind (view_node.f x0) fun t_1 =>
  some (w64 (400 + (w64 (40 * t_1))))

def view_Next.f (x0 : Int) (x1 : Int) : Option (Int) :=
  Option.bind (view_node.f x1) fun t_1 =>
  some (w64 ((w64 (8 * (w64 ((w64 (Int.tdiv (mn (mx x0 0) 549755813888) 8)) + 1)))) + t_1))

def view_Who.f (x0 : Int) : Option (Int) :=
  some (Int.tmod (mx x0 0) 8)

def hocketref1_SameInts.J1 (K : Nat) : Option (Bool) :=
  some true
def hocketref1_SameInts.B1 (K : Nat) (x0 : List Int) (x1 : List Int) (ex_9 : Unit → Option (Bool)) (again_9 : Int → Option (Bool)) (x_8 : Int) : Option (Bool) :=
  if x_8 < (x0.length : Int) then (
  Option.bind (ix x0 x_8) fun t_16 =>
  Option.bind (ix x1 x_8) fun t_21 =>
  if t_16 = t_21 then (
  again_9 (w64 (x_8 + 1)))
  else (
  some false))
  else (
  ex_9 ())
def hocketref1_SameInts.L1 (K : Nat) (x0 : List Int) (x1 : List Int) (ex_9 : Unit → Option (Bool)) : Nat → Int → Option (Bool) :=
  iter fun again v => hocketref1_SameInts.B1 K x0 x1 ex_9 again v
def hocketref1_SameInts.f (K : Nat) (x0 : List Int) (x1 : List Int) : Option (Bool) :=
  if (x0.length : Int) = (x1.length : Int) then (
  hocketref1_SameInts.L1 K x0 x1 (fun v => hocketref1_SameInts.J1 K) K 0)
  else (
  some false)

def view_After.J1 (K : Nat) (t_1 : (List Int)) : Option (Int) :=
  if (t_1.length : Int) = 0 then (
  some (-1))
  else (
  Option.bind (ix t_1 0) fun t_15 =>
  some t_15)
def view_After.B1 (K : Nat) (t_1 : (List Int)) (x1 : Int) (ex_22 : Unit → Option (Int)) (again_22 : Int → Option (Int)) (x_21 : Int) : Option (Int) :=
  if x_21 < (t_1.length : Int) then (
  Option.bind (ix t_1 x_21) fun t_27 =>
  if t_27 > x1 then (
  some t_27)
  else (
  again_22 (w64 (x_21 + 1))))
  else (
  ex_22 ())
def view_After.L1 (K : Nat) (t_1 : (List Int)) (x1 : Int) (ex_22 : Unit → Option (Int)) : Nat → Int → Option (Int) :=
  iter fun again v => view_After.B1 K t_1 x1 ex_22 again v
def view_After.f (K : Nat) (x0 : Int) (x1 : Int) : Option (Int) :=
  Option.bind (view_Members.f K x0) fun t_1 =>
  view_After.L1 K t_1 x1 (fun v => view_After.J1 K t_1) K 0

def hocketlaw14_awake.f (K : Nat) : Option (Unit) :=
  Option.bind (view_Choose.f K ([(⟨2, 0, 0, 0, 8, 5, false, 0, 0, 0, 0, ([] : List UInt8), 0, 0, ([] : List Int), ([] : List Int), 0, (⟨0, 0, (⟨0, 0, ([] : List UInt8), ([] : List UInt8), ([] : List UInt8)⟩ : api_Cmd)⟩ : api_Entry)⟩ : api_Msg), (⟨2, 1, 0, 0, 8, 3, true, 0, 0, 0, 0, ([] : List UInt8), 0, 0, ([] : List Int), ([] : List Int), 0, (⟨0, 0, (⟨0, 0, ([] : List UInt8), ([] : List UInt8), ([] : List UInt8)⟩ : api_Cmd)⟩ : api_Entry)⟩ : api_Msg), (⟨2, 2, 0, 0, 0, 9, true, 0, 0, 0, 0, ([] : List UInt8), 0, 0, ([] : List Int), ([] : List Int), 0, (⟨0, 0, (⟨0, 0, ([] : List UInt8), ([] : List UInt8), ([] : List UInt8)⟩ : api_Cmd)⟩ : api_Entry)⟩ : api_Msg)] : List api_Msg) 5) fun t_7 =>
  Option.bind (cut ([(⟨2, 0, 0, 0, 8, 5, false, 0, 0, 0, 0, ([] : List UInt8), 0, 0, ([] : List Int), ([] : List Int), 0, (⟨0, 0, (⟨0, 0, ([] : List UInt8), ([] : List UInt8), ([] : List UInt8)⟩ : api_Cmd)⟩ : api_Entry)⟩ : api_Msg), (⟨2, 1, 0, 0, 8, 3, true, 0, 0, 0, 0, ([] : List UInt8), 0, 0, ([] : List Int), ([] : List Int), 0, (⟨0, 0, (⟨0, 0, ([] : List UInt8), ([] : List UInt8), ([] : List UInt8)⟩ : api_Cmd)⟩ : api_Entry)⟩ : api_Msg), (⟨2, 2, 0, 0, 0, 9, true, 0, 0, 0, 0, ([] : List UInt8), 0, 0, ([] : List Int), ([] : List Int), 0, (⟨0, 0, (⟨0, 0, ([] : List UInt8), ([] : List UInt8), ([] : List UInt8)⟩ : api_Cmd)⟩ : api_Entry)⟩ : api_Msg)] : List api_Msg) 0 2) fun t_12 =>
  Option.bind (view_Choose.f K t_12 5) fun t_15 =>
  Option.bind (view_Next.f 0 3) fun t_20 =>
  if t_20 = 11 then (
  Option.bind (view_Next.f 11 2) fun t_25 =>
  if t_25 = 18 then (
  Option.bind (view_Who.f 18) fun t_30 =>
  if t_30 = 2 then (
  Option.bind (view_Members.f K 11) fun t_35 =>
  Option.bind (hocketref1_SameInts.f K t_35 ([0, 1, 3] : List Int)) fun t_49 =>
  if t_49 = true then (
  Option.bind (view_Most.f 3 4) fun t_54 =>
  if t_54 = true then (
  none)
  else (
  Option.bind (view_Most.f 7 5) fun t_59 =>
  if t_59 = true then (
  Option.bind (view_After.f K 11 1) fun t_64 =>
  if t_64 = 3 then (
  Option.bind (view_After.f K 11 3) fun t_69 =>
  if t_69 = 0 then (
  Option.bind (view_After.f K 0 0) fun t_74 =>
  if t_74 = (-1) then (
  if t_7.2.2.2 = true then (
  if t_7.1 = 7 then (
  if t_7.2.1 = 1 then (
  if t_7.2.2.1 = 3 then (
  if t_15.2.2.2 = true then (
  none)
  else (
  Option.bind (view_Limit.f 1) fun t_84 =>
  if t_84 = 440 then (
  some ())
  else (
  none)))
  else (
  none))
  else (
  none))
  else (
  none))
  else (
  none))
  else (
  none))
  else (
  none))
  else (
  none))
  else (
  none)))
  else (
  none))
  else (
  none))
  else (
  none))
  else (
  none)

def hocketref11_Next.f (x0 : Int) (x1 : Int) : Option (Int) :=
  some (w64 ((w64 (8 * (w64 ((w64 (Int.tdiv (mn (mx x0 0) 549755813888) 8)) + 1)))) + (mn (mx x1 0) 6)))

def hocketref11_Who.f (x0 : Int) : Option (Int) :=
  some (band .i64 (mx x0 0) 7)

def hocketref11_Members.J1 (K : Nat) (x_3 : List Int) : Option ((List Int)) :=
  some x_3
def hocketref11_Members.B1 (K : Nat) (x0 : Int) (ex_17 : (List Int) → Option ((List Int))) (again_17 : (List Int) × Int → Option ((List Int))) (x_11 : List Int) (x_16 : Int) : Option ((List Int)) :=
  if x_16 < 7 then (
  if (band .i64 (shr .i64 x0 (wu64 x_16)) 1) = 1 then (
  Option.bind (app 17592186044416 x_11 ([x_16] : List Int)) fun t_30 =>
  again_17 (t_30, w64 (x_16 + 1)))
  else (
  again_17 (x_11, w64 (x_16 + 1))))
  else (
  ex_17 x_11)
def hocketref11_Members.L1 (K : Nat) (x0 : Int) (ex_17 : (List Int) → Option ((List Int))) : Nat → (List Int) × Int → Option ((List Int)) :=
  iter fun again v => hocketref11_Members.B1 K x0 ex_17 again v.1 v.2
def hocketref11_Members.f (K : Nat) (x0 : Int) : Option ((List Int)) :=
  hocketref11_Members.L1 K x0 (fun v => hocketref11_Members.J1 K v) K (([] : List Int), 0)

def hocketref11_Most.f (K : Nat) (x0 : Int) (x1 : Int) : Option (Bool) :=
  if (shr .i64 x0 (wu64 (mn (mx x1 1) 7))) = 0 then (
  Option.bind (hocketref11_Members.f K x0) fun t_3 =>
  some (decide ((w64 (2 * (t_3.length : Int))) > (mn (mx x1 1) 7))))
  else (
  some false)

def hocketref11_After.J1 (K : Nat) (t_1 : (List Int)) : Option (Int) :=
  if (t_1.length : Int) = 0 then (
  some (-1))
  else (
  Option.bind (ix t_1 0) fun t_15 =>
  some t_15)
def hocketref11_After.B1 (K : Nat) (t_1 : (List Int)) (x1 : Int) (ex_22 : Unit → Option (Int)) (again_22 : Int → Option (Int)) (x_21 : Int) : Option (Int) :=
  if x_21 < (t_1.length : Int) then (
  Option.bind (ix t_1 x_21) fun t_27 =>
  if t_27 > x1 then (
  Option.bind (ix t_1 x_21) fun t_33 =>
  some t_33)
  else (
  again_22 (w64 (x_21 + 1))))
  else (
  ex_22 ())
def hocketref11_After.L1 (K : Nat) (t_1 : (List Int)) (x1 : Int) (ex_22 : Unit → Option (Int)) : Nat → Int → Option (Int) :=
  iter fun again v => hocketref11_After.B1 K t_1 x1 ex_22 again v
def hocketref11_After.f (K : Nat) (x0 : Int) (x1 : Int) : Option (Int) :=
  Option.bind (hocketref11_Members.f K x0) fun t_1 =>
  hocketref11_After.L1 K t_1 x1 (fun v => hocketref11_After.J1 K t_1) K 0

def hocketref11_Limit.f (x0 : Int) : Option (Int) :=
  some (w64 (400 + (w64 (40 * (mn (mx x0 0) 6)))))

def hocketlaw7_Keys.f (x0 : Int) : Option ((List UInt8)) :=
  Option.bind (ix ([([] : List UInt8), ([97] : List UInt8), ([98] : List UInt8), ([99] : List UInt8), ([97, 98] : List UInt8), ([97, 98, 99] : List UInt8), ([122] : List UInt8), ([0] : List UInt8), ([255] : List UInt8), ([97, 98, 99, 100, 101, 102, 103, 104] : List UInt8), ([97, 98, 99, 100, 101, 102, 103, 104, 105] : List UInt8), ([107, 49] : List UInt8), ([107, 50] : List UInt8), ([107, 51] : List UInt8), ([107, 52] : List UInt8), ([107, 53] : List UInt8)] : List (List UInt8)) (band .i64 x0 15)) fun t_7 =>
  Option.bind (must (t_7.length ≤ 9223372036854775807)) fun u_12 =>
  some t_7

def hocketlaw8_Cmd.J3 (x0 : Int) (x_23 : api_Cmd) (x_39 : Int) : Option (api_Cmd) :=
  if (band .i64 (shr .i64 x0 19) 31) = 0 then (
  some (⟨band .i64 (shr .i64 x0 24) 31, w64 ((band .i64 (shr .i64 x0 17) 2047) - 20), x_23.Key, x_23.Val, x_23.Old⟩ : api_Cmd))
  else (
  some (⟨x_39, x_23.Who, x_23.Key, x_23.Val, x_23.Old⟩ : api_Cmd))
def hocketlaw8_Cmd.J2 (x0 : Int) (x_23 : api_Cmd) (x_35 : Bool) : Option (api_Cmd) :=
  if x_35 = true then (
  Option.bind (ix ([1, 2, 4, 9] : List Int) (band .i64 (shr .i64 x0 17) 3)) fun t_55 =>
  hocketlaw8_Cmd.J3 x0 x_23 t_55)
  else (
  hocketlaw8_Cmd.J3 x0 x_23 x_23.Kind)
def hocketlaw8_Cmd.J1 (x0 : Int) (x_23 : api_Cmd) : Option (api_Cmd) :=
  if x_23.Kind = 0 then (
  hocketlaw8_Cmd.J2 x0 x_23 true)
  else (
  hocketlaw8_Cmd.J2 x0 x_23 (x_23.Kind == 12))
def hocketlaw8_Cmd.f (x0 : Int) : Option (api_Cmd) :=
  Option.bind (ix ([([] : List UInt8), ([97] : List UInt8), ([98] : List UInt8), ([97, 98] : List UInt8), ([118, 97, 108, 117, 101] : List UInt8), ([48, 49, 50, 51, 52, 53, 54, 55, 56, 57, 97, 98, 99, 100, 101, 102] : List UInt8), ([48, 49, 50, 51, 52, 53, 54, 55, 56, 57, 97, 98, 99, 100, 101, 102, 103] : List UInt8), ([0, 255] : List UInt8)] : List (List UInt8)) (band .i64 (shr .i64 x0 5) 7)) fun t_9 =>
  Option.bind (must (t_9.length ≤ 9223372036854775807)) fun u_14 =>
  Option.bind (hocketlaw7_Keys.f (shr .i64 x0 11)) fun t_63 =>
  Option.bind (ix ([([] : List UInt8), ([97] : List UInt8), ([98] : List UInt8), ([97, 98] : List UInt8)] : List (List UInt8)) (band .i64 (shr .i64 x0 15) 3)) fun t_75 =>
  Option.bind (must (t_75.length ≤ 9223372036854775807)) fun u_80 =>
  hocketlaw8_Cmd.J1 x0 (⟨w64 ((Int.tmod (band .i64 x0 31) 13) + 0), band .i64 (shr .i64 x0 8) 7, t_63, t_9, t_75⟩ : api_Cmd)

def hocketlaw10_Entry.f (x0 : Int) (x1 : Int) : Option (api_Entry) :=
  Option.bind (hocketlaw8_Cmd.f x0) fun t_3 =>
  some (⟨w64 ((Int.tmod (band .i64 (shr .i64 x0 25) 7) 6) + 1), w64 ((w64 ((w64 (Int.tdiv x1 3)) + (band .i64 (shr .i64 x0 28) 1))) + 1), t_3⟩ : api_Entry)

def hocketlaw11_Msg.J1 (K : Nat) (x0 : Int) (x1 : Int) (x_34 : List UInt8) : Option (api_Msg) :=
  some (⟨w64 ((band .i64 x0 7) + 1), Int.tmod (band .i64 (shr .i64 x0 3) 7) 7, Int.tmod (band .i64 (shr .i64 x0 6) 7) 7, band .i64 (shr .i64 x0 9) 1023, 0, 0, false, 0, 0, band .i64 x1 4095, band .i64 (shr .i64 x1 12) 4095, x_34, 0, 0, ([] : List Int), ([] : List Int), 0, (⟨0, 0, (⟨0, 0, ([] : List UInt8), ([] : List UInt8), ([] : List UInt8)⟩ : api_Cmd)⟩ : api_Entry)⟩ : api_Msg)
def hocketlaw11_Msg.B1 (K : Nat) (x1 : Int) (ex_51 : (List UInt8) → Option (api_Msg)) (again_51 : Int × (List UInt8) → Option (api_Msg)) (x_45 : Int) (x_46 : List UInt8) : Option (api_Msg) :=
  if x_45 < (band .i64 (shr .i64 x1 24) 63) then (
  Option.bind (app 140737488355328 x_46 ([toU8 (shr .i64 x1 (wu64 (band .i64 x_45 15)))] : List UInt8)) fun t_62 =>
  again_51 (w64 (x_45 + 1), t_62))
  else (
  ex_51 x_46)
def hocketlaw11_Msg.L1 (K : Nat) (x1 : Int) (ex_51 : (List UInt8) → Option (api_Msg)) : Nat → Int × (List UInt8) → Option (api_Msg) :=
  iter fun again v => hocketlaw11_Msg.B1 K x1 ex_51 again v.1 v.2
def hocketlaw11_Msg.J3 (K : Nat) (x0 : Int) (x1 : Int) (x_74 : List Int) (x_83 : List Int) : Option (api_Msg) :=
  some (⟨w64 ((band .i64 x0 7) + 1), Int.tmod (band .i64 (shr .i64 x0 3) 7) 7, Int.tmod (band .i64 (shr .i64 x0 6) 7) 7, band .i64 (shr .i64 x0 9) 1023, 0, 0, false, 0, 0, 0, 0, ([] : List UInt8), band .i64 x1 1023, band .i64 (shr .i64 x1 10) 255, x_74, x_83, 0, (⟨0, 0, (⟨0, 0, ([] : List UInt8), ([] : List UInt8), ([] : List UInt8)⟩ : api_Cmd)⟩ : api_Entry)⟩ : api_Msg)
def hocketlaw11_Msg.B2 (K : Nat) (x1 : Int) (ex_99 : (List Int) → Option (api_Msg)) (again_99 : Int × (List Int) → Option (api_Msg)) (x_93 : Int) (x_94 : List Int) : Option (api_Msg) :=
  if x_93 < (band .i64 (shr .i64 x1 21) 7) then (
  Option.bind (app 17592186044416 x_94 ([band .i64 (shr .i64 x1 (wu64 (w64 (x_93 + 3)))) 63] : List Int)) fun t_110 =>
  again_99 (w64 (x_93 + 1), t_110))
  else (
  ex_99 x_94)
def hocketlaw11_Msg.L2 (K : Nat) (x1 : Int) (ex_99 : (List Int) → Option (api_Msg)) : Nat → Int × (List Int) → Option (api_Msg) :=
  iter fun again v => hocketlaw11_Msg.B2 K x1 ex_99 again v.1 v.2
def hocketlaw11_Msg.J2 (K : Nat) (x1 : Int) (x0 : Int) (x_74 : List Int) : Option (api_Msg) :=
  hocketlaw11_Msg.L2 K x1 (fun v => hocketlaw11_Msg.J3 K x0 x1 x_74 v) K (0, ([] : List Int))
def hocketlaw11_Msg.B3 (K : Nat) (x1 : Int) (ex_124 : (List Int) → Option (api_Msg)) (again_124 : Int × (List Int) → Option (api_Msg)) (x_118 : Int) (x_119 : List Int) : Option (api_Msg) :=
  if x_118 < (band .i64 (shr .i64 x1 18) 7) then (
  Option.bind (app 17592186044416 x_119 ([band .i64 (shr .i64 x1 (wu64 x_118)) 63] : List Int)) fun t_135 =>
  again_124 (w64 (x_118 + 1), t_135))
  else (
  ex_124 x_119)
def hocketlaw11_Msg.L3 (K : Nat) (x1 : Int) (ex_124 : (List Int) → Option (api_Msg)) : Nat → Int × (List Int) → Option (api_Msg) :=
  iter fun again v => hocketlaw11_Msg.B3 K x1 ex_124 again v.1 v.2
def hocketlaw11_Msg.f (K : Nat) (x0 : Int) (x1 : Int) : Option (api_Msg) :=
  if (w64 ((band .i64 x0 7) + 1)) = 2 then (
  some (⟨w64 ((band .i64 x0 7) + 1), Int.tmod (band .i64 (shr .i64 x0 3) 7) 7, Int.tmod (band .i64 (shr .i64 x0 6) 7) 7, band .i64 (shr .i64 x0 9) 1023, band .i64 x1 255, band .i64 (shr .i64 x1 8) 63, ((band .i64 (shr .i64 x1 14) 1) == 1), 0, 0, 0, 0, ([] : List UInt8), 0, 0, ([] : List Int), ([] : List Int), 0, (⟨0, 0, (⟨0, 0, ([] : List UInt8), ([] : List UInt8), ([] : List UInt8)⟩ : api_Cmd)⟩ : api_Entry)⟩ : api_Msg))
  else (
  if (w64 ((band .i64 x0 7) + 1)) = 3 then (
  some (⟨w64 ((band .i64 x0 7) + 1), Int.tmod (band .i64 (shr .i64 x0 3) 7) 7, Int.tmod (band .i64 (shr .i64 x0 6) 7) 7, band .i64 (shr .i64 x0 9) 1023, 0, band .i64 (shr .i64 x1 10) 63, false, band .i64 x1 127, Int.tmod (band .i64 (shr .i64 x1 7) 7) 7, 0, 0, ([] : List UInt8), 0, 0, ([] : List Int), ([] : List Int), 0, (⟨0, 0, (⟨0, 0, ([] : List UInt8), ([] : List UInt8), ([] : List UInt8)⟩ : api_Cmd)⟩ : api_Entry)⟩ : api_Msg))
  else (
  if (w64 ((band .i64 x0 7) + 1)) = 4 then (
  some (⟨w64 ((band .i64 x0 7) + 1), Int.tmod (band .i64 (shr .i64 x0 3) 7) 7, Int.tmod (band .i64 (shr .i64 x0 6) 7) 7, band .i64 (shr .i64 x0 9) 1023, 0, 0, false, 0, 0, band .i64 x1 4095, 0, ([] : List UInt8), 0, 0, ([] : List Int), ([] : List Int), 0, (⟨0, 0, (⟨0, 0, ([] : List UInt8), ([] : List UInt8), ([] : List UInt8)⟩ : api_Cmd)⟩ : api_Entry)⟩ : api_Msg))
  else (
  if (w64 ((band .i64 x0 7) + 1)) = 5 then (
  hocketlaw11_Msg.L1 K x1 (fun v => hocketlaw11_Msg.J1 K x0 x1 v) K (0, ([] : List UInt8)))
  else (
  if (w64 ((band .i64 x0 7) + 1)) = 7 then (
  hocketlaw11_Msg.L3 K x1 (fun v => hocketlaw11_Msg.J2 K x1 x0 v) K (0, ([] : List Int)))
  else (
  if (w64 ((band .i64 x0 7) + 1)) = 8 then (
  Option.bind (hocketlaw10_Entry.f x0 (band .i64 (shr .i64 x1 10) 63)) fun t_143 =>
  some (⟨w64 ((band .i64 x0 7) + 1), Int.tmod (band .i64 (shr .i64 x0 3) 7) 7, Int.tmod (band .i64 (shr .i64 x0 6) 7) 7, band .i64 (shr .i64 x0 9) 1023, 0, 0, false, 0, 0, 0, 0, ([] : List UInt8), 0, 0, ([] : List Int), ([] : List Int), band .i64 x1 1023, (⟨t_143.Sess, t_143.Seq, (⟨t_143.Cmd.Kind, mx t_143.Cmd.Who 0, t_143.Cmd.Key, t_143.Cmd.Val, t_143.Cmd.Old⟩ : api_Cmd)⟩ : api_Entry)⟩ : api_Msg))
  else (
  some (⟨w64 ((band .i64 x0 7) + 1), Int.tmod (band .i64 (shr .i64 x0 3) 7) 7, Int.tmod (band .i64 (shr .i64 x0 6) 7) 7, band .i64 (shr .i64 x0 9) 1023, 0, 0, false, 0, 0, 0, 0, ([] : List UInt8), 0, 0, ([] : List Int), ([] : List Int), 0, (⟨0, 0, (⟨0, 0, ([] : List UInt8), ([] : List UInt8), ([] : List UInt8)⟩ : api_Cmd)⟩ : api_Entry)⟩ : api_Msg)))))))

def hocketref11_Choose.J3 (K : Nat) (x_10 : List api_Msg) (x_19 : Int) (x_8 : Int) (x_25 : Bool) : Option (Int × Int × Int × Bool) :=
  if x_25 = true then (
  some (0, 0, 0, false))
  else (
  Option.bind (ix x_10 x_19) fun t_31 =>
  some (x_8, x_19, t_31.Len, true))
def hocketref11_Choose.J2 (K : Nat) (x_10 : List api_Msg) (x_8 : Int) (x1 : Int) (x_19 : Int) : Option (Int × Int × Int × Bool) :=
  if x_19 < 0 then (
  hocketref11_Choose.J3 K x_10 x_19 x_8 true)
  else (
  Option.bind (hocketref11_Most.f K x_8 (mn (mx x1 1) 7)) fun t_49 =>
  hocketref11_Choose.J3 K x_10 x_19 x_8 (!t_49))
def hocketref11_Choose.J4 (K : Nat) (again_56 : Int × Int → Option (Int × Int × Int × Bool)) (x_55 : Int) (x_54 : Int) (x_63 : Bool) : Option (Int × Int × Int × Bool) :=
  if x_63 = true then (
  again_56 (x_55, w64 (x_55 + 1)))
  else (
  again_56 (x_54, w64 (x_55 + 1)))
def hocketref11_Choose.B1 (K : Nat) (x1 : Int) (x_8 : Int) (x_10 : List api_Msg) (x_9 : Int) (ex_56 : Int → Option (Int × Int × Int × Bool)) (again_56 : Int × Int → Option (Int × Int × Int × Bool)) (x_54 : Int) (x_55 : Int) : Option (Int × Int × Int × Bool) :=
  if x_55 < (mn (mx x1 1) 7) then (
  if (band .i64 (shr .i64 x_8 (wu64 x_55)) 1) = 1 then (
  Option.bind (ix x_10 x_55) fun t_69 =>
  if t_69.Has = true then (
  Option.bind (ix x_10 x_55) fun t_87 =>
  if t_87.Inst = x_9 then (
  if x_54 < 0 then (
  hocketref11_Choose.J4 K again_56 x_55 x_54 true)
  else (
  Option.bind (ix x_10 x_55) fun t_106 =>
  Option.bind (ix x_10 x_54) fun t_123 =>
  hocketref11_Choose.J4 K again_56 x_55 x_54 (decide (t_106.Len > t_123.Len))))
  else (
  hocketref11_Choose.J4 K again_56 x_55 x_54 false))
  else (
  hocketref11_Choose.J4 K again_56 x_55 x_54 false))
  else (
  hocketref11_Choose.J4 K again_56 x_55 x_54 false))
  else (
  ex_56 x_54)
def hocketref11_Choose.L1 (K : Nat) (x1 : Int) (x_8 : Int) (x_10 : List api_Msg) (x_9 : Int) (ex_56 : Int → Option (Int × Int × Int × Bool)) : Nat → Int × Int → Option (Int × Int × Int × Bool) :=
  iter fun again v => hocketref11_Choose.B1 K x1 x_8 x_10 x_9 ex_56 again v.1 v.2
def hocketref11_Choose.J1 (K : Nat) (x1 : Int) (x_8 : Int) (x_9 : Int) (x_10 : List api_Msg) : Option (Int × Int × Int × Bool) :=
  hocketref11_Choose.L1 K x1 x_8 x_10 x_9 (fun v => hocketref11_Choose.J2 K x_10 x_8 x1 v) K ((-1), 0)
def hocketref11_Choose.J7 (K : Nat) (x_143 : List api_Msg) (t_153 : api_Msg) (again_149 : Int × Int × (List api_Msg) × Int → Option (Int × Int × Int × Bool)) (x_141 : Int) (x_148 : Int) (x_187 : Int) : Option (Int × Int × Int × Bool) :=
  Option.bind (ix x_143 t_153.From) fun t_190 =>
  again_149 (bor .i64 x_141 (shl .i64 1 (wu64 t_153.From)), x_187, (x_143.set (t_153.From).toNat t_153), w64 (x_148 + 1))
def hocketref11_Choose.J6 (K : Nat) (x_143 : List api_Msg) (t_153 : api_Msg) (again_149 : Int × Int × (List api_Msg) × Int → Option (Int × Int × Int × Bool)) (x_141 : Int) (x_148 : Int) (x_142 : Int) (x_183 : Bool) : Option (Int × Int × Int × Bool) :=
  if x_183 = true then (
  hocketref11_Choose.J7 K x_143 t_153 again_149 x_141 x_148 t_153.Inst)
  else (
  hocketref11_Choose.J7 K x_143 t_153 again_149 x_141 x_148 x_142)
def hocketref11_Choose.J5 (K : Nat) (again_149 : Int × Int × (List api_Msg) × Int → Option (Int × Int × Int × Bool)) (x_141 : Int) (x_142 : Int) (x_143 : List api_Msg) (x_148 : Int) (t_153 : api_Msg) (x_176 : Bool) : Option (Int × Int × Int × Bool) :=
  if x_176 = true then (
  again_149 (x_141, x_142, x_143, w64 (x_148 + 1)))
  else (
  if (bor .i64 x_141 (shl .i64 1 (wu64 t_153.From))) = (shl .i64 1 (wu64 t_153.From)) then (
  hocketref11_Choose.J6 K x_143 t_153 again_149 x_141 x_148 x_142 true)
  else (
  hocketref11_Choose.J6 K x_143 t_153 again_149 x_141 x_148 x_142 (decide (t_153.Inst > x_142))))
def hocketref11_Choose.B2 (K : Nat) (x0 : List api_Msg) (x1 : Int) (ex_149 : Int × Int × (List api_Msg) → Option (Int × Int × Int × Bool)) (again_149 : Int × Int × (List api_Msg) × Int → Option (Int × Int × Int × Bool)) (x_141 : Int) (x_142 : Int) (x_143 : List api_Msg) (x_148 : Int) : Option (Int × Int × Int × Bool) :=
  if x_148 < (x0.length : Int) then (
  Option.bind (ix x0 x_148) fun t_153 =>
  if t_153.Kind = 2 then (
  if t_153.From < 0 then (
  hocketref11_Choose.J5 K again_149 x_141 x_142 x_143 x_148 t_153 true)
  else (
  if t_153.From ≥ (mn (mx x1 1) 7) then (
  hocketref11_Choose.J5 K again_149 x_141 x_142 x_143 x_148 t_153 true)
  else (
  hocketref11_Choose.J5 K again_149 x_141 x_142 x_143 x_148 t_153 ((band .i64 (shr .i64 x_141 (wu64 t_153.From)) 1) == 1))))
  else (
  hocketref11_Choose.J5 K again_149 x_141 x_142 x_143 x_148 t_153 true))
  else (
  ex_149 (x_141, x_142, x_143))
def hocketref11_Choose.L2 (K : Nat) (x0 : List api_Msg) (x1 : Int) (ex_149 : Int × Int × (List api_Msg) → Option (Int × Int × Int × Bool)) : Nat → Int × Int × (List api_Msg) × Int → Option (Int × Int × Int × Bool) :=
  iter fun again v => hocketref11_Choose.B2 K x0 x1 ex_149 again v.1 v.2.1 v.2.2.1 v.2.2.2
def hocketref11_Choose.f (K : Nat) (x0 : List api_Msg) (x1 : Int) : Option (Int × Int × Int × Bool) :=
  hocketref11_Choose.L2 K x0 x1 (fun v => hocketref11_Choose.J1 K x1 v.1 v.2.1 v.2.2) K (0, 0, (List.replicate 7 (⟨0, 0, 0, 0, 0, 0, false, 0, 0, 0, 0, ([] : List UInt8), 0, 0, ([] : List Int), ([] : List Int), 0, (⟨0, 0, (⟨0, 0, ([] : List UInt8), ([] : List UInt8), ([] : List UInt8)⟩ : api_Cmd)⟩ : api_Entry)⟩ : api_Msg)), 0)

def hocketlaw14_ViewTells.J3 (K : Nat) : Option (Unit) :=
  Option.bind (hocketlaw14_awake.f K) fun t_52 =>
  some ()
def hocketlaw14_ViewTells.J4 (K : Nat) (again_58 : Int → Option (Unit)) (x_57 : Int) : Option (Unit) :=
  again_58 (w64 (x_57 + 1))
def hocketlaw14_ViewTells.B2 (K : Nat) (x_9 : Int) (t_63 : List api_Msg) (ex_82 : Unit → Option (Unit)) (again_82 : Int → Option (Unit)) (x_81 : Int) : Option (Unit) :=
  if x_81 < (([x_9, 3, 5, 7] : List Int).length : Int) then (
  Option.bind (ix ([x_9, 3, 5, 7] : List Int) x_81) fun t_87 =>
  Option.bind (view_Choose.f K t_63 t_87) fun t_92 =>
  Option.bind (hocketref11_Choose.f K t_63 t_87) fun t_96 =>
  if t_92.1 = t_96.1 then (
  if t_92.2.1 = t_96.2.1 then (
  if t_92.2.2.1 = t_96.2.2.1 then (
  if t_92.2.2.2 = t_96.2.2.2 then (
  again_82 (w64 (x_81 + 1)))
  else (
  none))
  else (
  none))
  else (
  none))
  else (
  none))
  else (
  ex_82 ())
def hocketlaw14_ViewTells.L2 (K : Nat) (x_9 : Int) (t_63 : List api_Msg) (ex_82 : Unit → Option (Unit)) : Nat → Int → Option (Unit) :=
  iter fun again v => hocketlaw14_ViewTells.B2 K x_9 t_63 ex_82 again v
def hocketlaw14_ViewTells.B1 (K : Nat) (x3 : List api_Msg) (x_14 : List api_Msg) (t_34 : List api_Msg) (x_9 : Int) (ex_58 : Unit → Option (Unit)) (again_58 : Int → Option (Unit)) (x_57 : Int) : Option (Unit) :=
  if x_57 < (([x3, x_14, t_34] : List (List api_Msg)).length : Int) then (
  Option.bind (ix ([x3, x_14, t_34] : List (List api_Msg)) x_57) fun t_63 =>
  hocketlaw14_ViewTells.L2 K x_9 t_63 (fun v => hocketlaw14_ViewTells.J4 K again_58 x_57) K 0)
  else (
  ex_58 ())
def hocketlaw14_ViewTells.L1 (K : Nat) (x3 : List api_Msg) (x_14 : List api_Msg) (t_34 : List api_Msg) (x_9 : Int) (ex_58 : Unit → Option (Unit)) : Nat → Int → Option (Unit) :=
  iter fun again v => hocketlaw14_ViewTells.B1 K x3 x_14 t_34 x_9 ex_58 again v
def hocketlaw14_ViewTells.J2 (K : Nat) (x3 : List api_Msg) (x_9 : Int) (x_14 : List api_Msg) : Option (Unit) :=
  Option.bind (app 488671834567 ([] : List api_Msg) x_14) fun t_28 =>
  Option.bind (app 488671834567 t_28 x3) fun t_34 =>
  hocketlaw14_ViewTells.L1 K x3 x_14 t_34 x_9 (fun v => hocketlaw14_ViewTells.J3 K) K 0
def hocketlaw14_ViewTells.J6 (K : Nat) (x4 : List Int) (x_111 : Int) (x_106 : List api_Msg) (again_112 : (List api_Msg) × Int → Option (Unit)) (x_125 : api_Msg) : Option (Unit) :=
  Option.bind (ix x4 x_111) fun t_147 =>
  Option.bind (app 488671834567 x_106 ([(⟨x_125.Kind, band .i64 (shr .i64 t_147 12) 7, x_125.To, x_125.View, w64 ((band .i64 x_125.Inst 3) * 8), x_125.Len, x_125.Has, x_125.Members, x_125.Source, x_125.At, x_125.Total, x_125.Data, x_125.Hop, x_125.Seq, x_125.Have, x_125.Need, x_125.Index, x_125.Entry⟩ : api_Msg)] : List api_Msg)) fun t_162 =>
  again_112 (t_162, w64 (x_111 + 1))
def hocketlaw14_ViewTells.J5 (K : Nat) (x4 : List Int) (x_111 : Int) (x_106 : List api_Msg) (again_112 : (List api_Msg) × Int → Option (Unit)) (ex_112 : (List api_Msg) → Option (Unit)) (x_118 : Bool) : Option (Unit) :=
  if x_118 = true then (
  Option.bind (ix x4 x_111) fun t_169 =>
  Option.bind (ix x4 x_111) fun t_174 =>
  Option.bind (hocketlaw11_Msg.f K (bor .i64 (bandn .i64 t_169 7) 1) (shr .i64 t_174 4)) fun t_179 =>
  hocketlaw14_ViewTells.J6 K x4 x_111 x_106 again_112 t_179)
  else (
  ex_112 x_106)
def hocketlaw14_ViewTells.B3 (K : Nat) (x4 : List Int) (ex_112 : (List api_Msg) → Option (Unit)) (again_112 : (List api_Msg) × Int → Option (Unit)) (x_106 : List api_Msg) (x_111 : Int) : Option (Unit) :=
  if x_111 < (x4.length : Int) then (
  hocketlaw14_ViewTells.J5 K x4 x_111 x_106 again_112 ex_112 (decide (x_111 < 9)))
  else (
  hocketlaw14_ViewTells.J5 K x4 x_111 x_106 again_112 ex_112 false)
def hocketlaw14_ViewTells.L3 (K : Nat) (x4 : List Int) (ex_112 : (List api_Msg) → Option (Unit)) : Nat → (List api_Msg) × Int → Option (Unit) :=
  iter fun again v => hocketlaw14_ViewTells.B3 K x4 ex_112 again v.1 v.2
def hocketlaw14_ViewTells.J1 (K : Nat) (x4 : List Int) (x3 : List api_Msg) (x_9 : Int) : Option (Unit) :=
  hocketlaw14_ViewTells.L3 K x4 (fun v => hocketlaw14_ViewTells.J2 K x3 x_9 v) K (([] : List api_Msg), 0)
def hocketlaw14_ViewTells.J7 (K : Nat) (again_235 : Int × Int × Int × Int → Option (Unit)) (x_231 : Int) (x_232 : Int) (x_233 : Int) (x_234 : Int) (x_242 : Bool) : Option (Unit) :=
  if x_242 = true then (
  none)
  else (
  again_235 (band .i64 x_231 127, band .i64 x_232 7, w64 ((band .i64 x_233 7) + 1), w64 (x_234 + 1)))
def hocketlaw14_ViewTells.B4 (K : Nat) (ex_235 : Int → Option (Unit)) (again_235 : Int × Int × Int × Int → Option (Unit)) (x_231 : Int) (x_232 : Int) (x_233 : Int) (x_234 : Int) : Option (Unit) :=
  if x_234 < 2 then (
  Option.bind (view_Next.f x_231 x_232) fun t_246 =>
  Option.bind (hocketref11_Next.f x_231 x_232) fun t_250 =>
  if t_246 = t_250 then (
  Option.bind (view_Who.f x_231) fun t_255 =>
  Option.bind (hocketref11_Who.f x_231) fun t_259 =>
  if t_255 = t_259 then (
  Option.bind (view_Members.f K x_231) fun t_264 =>
  Option.bind (hocketref11_Members.f K x_231) fun t_272 =>
  Option.bind (hocketref1_SameInts.f K t_264 t_272) fun t_280 =>
  if t_280 = true then (
  Option.bind (view_Most.f x_231 x_233) fun t_285 =>
  Option.bind (hocketref11_Most.f K x_231 x_233) fun t_289 =>
  if t_285 = t_289 then (
  Option.bind (view_After.f K x_231 x_232) fun t_294 =>
  Option.bind (hocketref11_After.f K x_231 x_232) fun t_298 =>
  if t_294 = t_298 then (
  Option.bind (view_Limit.f x_232) fun t_303 =>
  Option.bind (hocketref11_Limit.f x_232) fun t_307 =>
  hocketlaw14_ViewTells.J7 K again_235 x_231 x_232 x_233 x_234 (t_303 != t_307))
  else (
  hocketlaw14_ViewTells.J7 K again_235 x_231 x_232 x_233 x_234 true))
  else (
  hocketlaw14_ViewTells.J7 K again_235 x_231 x_232 x_233 x_234 true))
  else (
  hocketlaw14_ViewTells.J7 K again_235 x_231 x_232 x_233 x_234 true))
  else (
  hocketlaw14_ViewTells.J7 K again_235 x_231 x_232 x_233 x_234 true))
  else (
  hocketlaw14_ViewTells.J7 K again_235 x_231 x_232 x_233 x_234 true))
  else (
  ex_235 x_233)
def hocketlaw14_ViewTells.L4 (K : Nat) (ex_235 : Int → Option (Unit)) : Nat → Int × Int × Int × Int → Option (Unit) :=
  iter fun again v => hocketlaw14_ViewTells.B4 K ex_235 again v.1 v.2.1 v.2.2.1 v.2.2.2
def hocketlaw14_ViewTells.f (K : Nat) (x0 : Int) (x1 : Int) (x2 : Int) (x3 : List api_Msg) (x4 : List Int) : Option (Unit) :=
  if (x3.length : Int) > 15 then (
  Option.bind (hocketlaw14_awake.f K) fun t_3 =>
  some ())
  else (
  hocketlaw14_ViewTells.L4 K (fun v => hocketlaw14_ViewTells.J1 K x4 x3 v) K (x0, x1, x2, 0))

def slices_Clone_sint_int.f (x0 : List Int) : Option (List Int) :=
  app 17592186044416 ([] : List Int) x0

def slices_Index_sint_int.J1 (K : Nat) : Option (Int) :=
  some (-1)
def slices_Index_sint_int.B1 (K : Nat) (x0 : List Int) (x1 : Int) (ex_7 : Unit → Option (Int)) (again_7 : Int → Option (Int)) (x_6 : Int) : Option (Int) :=
  if x_6 < (x0.length : Int) then (
  Option.bind (ix x0 x_6) fun t_12 =>
  if x1 = t_12 then (
  some x_6)
  else (
  again_7 (w64 (x_6 + 1))))
  else (
  ex_7 ())
def slices_Index_sint_int.L1 (K : Nat) (x0 : List Int) (x1 : Int) (ex_7 : Unit → Option (Int)) : Nat → Int → Option (Int) :=
  iter fun again v => slices_Index_sint_int.B1 K x0 x1 ex_7 again v
def slices_Index_sint_int.f (K : Nat) (x0 : List Int) (x1 : Int) : Option (Int) :=
  slices_Index_sint_int.L1 K x0 x1 (fun v => slices_Index_sint_int.J1 K) K 0

def slices_Contains_sint_int.f (K : Nat) (x0 : List Int) (x1 : Int) : Option (Bool) :=
  Option.bind (slices_Index_sint_int.f K x0 x1) fun t_1 =>
  some (decide (t_1 ≥ 0))

end Go.Gp
