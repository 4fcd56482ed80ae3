/- The program's structs in memory. -/
import Derived.Test.YtbjefkmbpbdhbaaLc
import Derived.Test.YtbjefkmbpbdhbaaDefs
namespace Go.Gp
set_option linter.unusedVariables false
def k_api_Result : Kd api_Result := Kd.iso (Kd.pair (Kd.int .i64) (Kd.pair (Kd.slice Kd.u8) (Kd.int .i64))) (fun x => (x.Err, (x.Val, x.N)))
theorem k_api_Result.open' {M : Mem} {x : api_Result} {cs : List Value} (h : k_api_Result.K M x cs) : ∃ v1 : Value, cs = [.int .i64 x.Err, v1, .int .i64 x.N] ∧ Rd Kd.u8 M v1 x.Val := by
  obtain ⟨c0, d0, rfl, rfl, ⟨c1, d1, rfl, ⟨v1, rfl, r1⟩, rfl⟩⟩ := h
  exact ⟨v1, rfl, r1⟩
theorem k_api_Result.mk' {M : Mem} {x : api_Result} {v1 : Value} (r1 : Rd Kd.u8 M v1 x.Val) : k_api_Result.K M x [.int .i64 x.Err, v1, .int .i64 x.N] :=
  ⟨[.int .i64 x.Err], [v1, .int .i64 x.N], rfl, rfl, ⟨[v1], [.int .i64 x.N], rfl, ⟨v1, rfl, r1⟩, rfl⟩⟩
def k_An_s_old_v_want_e_val : Kd An_s_old_v_want_e_val := Kd.iso (Kd.pair Kd.str (Kd.pair Kd.str (Kd.pair Kd.str (Kd.pair Kd.str (Kd.pair (Kd.int .i64) Kd.str))))) (fun x => (x.s, (x.old, (x.v, (x.want, (x.e, x.val))))))
theorem k_An_s_old_v_want_e_val.open' {M : Mem} {x : An_s_old_v_want_e_val} {cs : List Value} (h : k_An_s_old_v_want_e_val.K M x cs) : cs = [.string ⟨x.s.toArray⟩, .string ⟨x.old.toArray⟩, .string ⟨x.v.toArray⟩, .string ⟨x.want.toArray⟩, .int .i64 x.e, .string ⟨x.val.toArray⟩] := by
  obtain ⟨c0, d0, rfl, rfl, ⟨c1, d1, rfl, rfl, ⟨c2, d2, rfl, rfl, ⟨c3, d3, rfl, rfl, ⟨c4, d4, rfl, rfl, rfl⟩⟩⟩⟩⟩ := h
  rfl
theorem k_An_s_old_v_want_e_val.mk' {M : Mem} {x : An_s_old_v_want_e_val} : k_An_s_old_v_want_e_val.K M x [.string ⟨x.s.toArray⟩, .string ⟨x.old.toArray⟩, .string ⟨x.v.toArray⟩, .string ⟨x.want.toArray⟩, .int .i64 x.e, .string ⟨x.val.toArray⟩] :=
  ⟨[.string ⟨x.s.toArray⟩], [.string ⟨x.old.toArray⟩, .string ⟨x.v.toArray⟩, .string ⟨x.want.toArray⟩, .int .i64 x.e, .string ⟨x.val.toArray⟩], rfl, rfl, ⟨[.string ⟨x.old.toArray⟩], [.string ⟨x.v.toArray⟩, .string ⟨x.want.toArray⟩, .int .i64 x.e, .string ⟨x.val.toArray⟩], rfl, rfl, ⟨[.string ⟨x.v.toArray⟩], [.string ⟨x.want.toArray⟩, .int .i64 x.e, .string ⟨x.val.toArray⟩], rfl, rfl, ⟨[.string ⟨x.want.toArray⟩], [.int .i64 x.e, .string ⟨x.val.toArray⟩], rfl, rfl, ⟨[.int .i64 x.e], [.string ⟨x.val.toArray⟩], rfl, rfl, rfl⟩⟩⟩⟩⟩
theorem flat_An_s_old_v_want_e_val : Flat k_An_s_old_v_want_e_val := fun M N x cs h => by
  obtain rfl := k_An_s_old_v_want_e_val.open' h
  exact k_An_s_old_v_want_e_val.mk'
def k_An_n_b_ok : Kd An_n_b_ok := Kd.iso (Kd.pair (Kd.int .i64) (Kd.pair Kd.str Kd.bool)) (fun x => (x.n, (x.b, x.ok)))
theorem k_An_n_b_ok.open' {M : Mem} {x : An_n_b_ok} {cs : List Value} (h : k_An_n_b_ok.K M x cs) : cs = [.int .i64 x.n, .string ⟨x.b.toArray⟩, .bool x.ok] := by
  obtain ⟨c0, d0, rfl, rfl, ⟨c1, d1, rfl, rfl, rfl⟩⟩ := h
  rfl
theorem k_An_n_b_ok.mk' {M : Mem} {x : An_n_b_ok} : k_An_n_b_ok.K M x [.int .i64 x.n, .string ⟨x.b.toArray⟩, .bool x.ok] :=
  ⟨[.int .i64 x.n], [.string ⟨x.b.toArray⟩, .bool x.ok], rfl, rfl, ⟨[.string ⟨x.b.toArray⟩], [.bool x.ok], rfl, rfl, rfl⟩⟩
theorem flat_An_n_b_ok : Flat k_An_n_b_ok := fun M N x cs h => by
  obtain rfl := k_An_n_b_ok.open' h
  exact k_An_n_b_ok.mk'
def k_pack_Reader : Kd pack_Reader := Kd.iso (Kd.pair (Kd.slice Kd.u8) Kd.bool) (fun x => (x.b, x.bad))
theorem k_pack_Reader.open' {M : Mem} {x : pack_Reader} {cs : List Value} (h : k_pack_Reader.K M x cs) : ∃ v0 : Value, cs = [v0, .bool x.bad] ∧ Rd Kd.u8 M v0 x.b := by
  obtain ⟨c0, d0, rfl, ⟨v0, rfl, r0⟩, rfl⟩ := h
  exact ⟨v0, rfl, r0⟩
theorem k_pack_Reader.mk' {M : Mem} {x : pack_Reader} {v0 : Value} (r0 : Rd Kd.u8 M v0 x.b) : k_pack_Reader.K M x [v0, .bool x.bad] :=
  ⟨[v0], [.bool x.bad], rfl, ⟨v0, rfl, r0⟩, rfl⟩
def k_hocketref1_Reader : Kd hocketref1_Reader := Kd.iso (Kd.pair (Kd.slice Kd.u8) Kd.bool) (fun x => (x.B, x.Bad))
theorem k_hocketref1_Reader.open' {M : Mem} {x : hocketref1_Reader} {cs : List Value} (h : k_hocketref1_Reader.K M x cs) : ∃ v0 : Value, cs = [v0, .bool x.Bad] ∧ Rd Kd.u8 M v0 x.B := by
  obtain ⟨c0, d0, rfl, ⟨v0, rfl, r0⟩, rfl⟩ := h
  exact ⟨v0, rfl, r0⟩
theorem k_hocketref1_Reader.mk' {M : Mem} {x : hocketref1_Reader} {v0 : Value} (r0 : Rd Kd.u8 M v0 x.B) : k_hocketref1_Reader.K M x [v0, .bool x.Bad] :=
  ⟨[v0], [.bool x.Bad], rfl, ⟨v0, rfl, r0⟩, rfl⟩
end Go.Gp
