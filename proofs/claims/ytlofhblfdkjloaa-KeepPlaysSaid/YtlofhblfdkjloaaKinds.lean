/- The program's structs in memory. -/
import Derived.Test.YtlofhblfdkjloaaLc
import Derived.Test.YtlofhblfdkjloaaDefs
namespace Go.Gp
set_option linter.unusedVariables false
def k_api_Record : Kd api_Record := Kd.iso (Kd.pair (Kd.int .i64) (Kd.pair (Kd.int .i64) (Kd.int .i64))) (fun x => (x.Inc, (x.Prom, x.Inst)))
theorem k_api_Record.open' {M : Mem} {x : api_Record} {cs : List Value} (h : k_api_Record.K M x cs) : cs = [.int .i64 x.Inc, .int .i64 x.Prom, .int .i64 x.Inst] := by
  obtain ⟨c0, d0, rfl, rfl, ⟨c1, d1, rfl, rfl, rfl⟩⟩ := h
  rfl
theorem k_api_Record.mk' {M : Mem} {x : api_Record} : k_api_Record.K M x [.int .i64 x.Inc, .int .i64 x.Prom, .int .i64 x.Inst] :=
  ⟨[.int .i64 x.Inc], [.int .i64 x.Prom, .int .i64 x.Inst], rfl, rfl, ⟨[.int .i64 x.Prom], [.int .i64 x.Inst], rfl, rfl, rfl⟩⟩
theorem flat_api_Record : Flat k_api_Record := fun M N x cs h => by
  obtain rfl := k_api_Record.open' h
  exact k_api_Record.mk'
def k_api_Disk : Kd api_Disk := Kd.iso (Kd.pair (Kd.slice Kd.u8) (Kd.slice Kd.u8)) (fun x => (x.A, x.B))
theorem k_api_Disk.open' {M : Mem} {x : api_Disk} {cs : List Value} (h : k_api_Disk.K M x cs) : ∃ v0 v1 : Value, cs = [v0, v1] ∧ Rd Kd.u8 M v0 x.A ∧ Rd Kd.u8 M v1 x.B := by
  obtain ⟨c0, d0, rfl, ⟨v0, rfl, r0⟩, ⟨v1, rfl, r1⟩⟩ := h
  exact ⟨v0, v1, rfl, r0, r1⟩
theorem k_api_Disk.mk' {M : Mem} {x : api_Disk} {v0 v1 : Value} (r0 : Rd Kd.u8 M v0 x.A) (r1 : Rd Kd.u8 M v1 x.B) : k_api_Disk.K M x [v0, v1] :=
  ⟨[v0], [v1], rfl, ⟨v0, rfl, r0⟩, ⟨v1, rfl, r1⟩⟩
def k_keep_Keep : Kd keep_Keep := Kd.iso (Kd.pair k_api_Disk (Kd.pair (Kd.int .i64) Kd.bool)) (fun x => (x.d, (x.cut, x.dead)))
theorem k_keep_Keep.open' {M : Mem} {x : keep_Keep} {cs : List Value} (h : k_keep_Keep.K M x cs) : ∃ v0 v1 : Value, cs = [v0, v1, .int .i64 x.cut, .bool x.dead] ∧ Rd Kd.u8 M v0 x.d.A ∧ Rd Kd.u8 M v1 x.d.B := by
  obtain ⟨c0, d0, rfl, h0, ⟨c1, d1, rfl, rfl, rfl⟩⟩ := h
  obtain ⟨v0, v1, rfl, r0, r1⟩ := k_api_Disk.open' h0
  exact ⟨v0, v1, rfl, r0, r1⟩
theorem k_keep_Keep.mk' {M : Mem} {x : keep_Keep} {v0 v1 : Value} (r0 : Rd Kd.u8 M v0 x.d.A) (r1 : Rd Kd.u8 M v1 x.d.B) : k_keep_Keep.K M x [v0, v1, .int .i64 x.cut, .bool x.dead] :=
  ⟨[v0, v1], [.int .i64 x.cut, .bool x.dead], rfl, (k_api_Disk.mk' r0 r1), ⟨[.int .i64 x.cut], [.bool x.dead], rfl, rfl, rfl⟩⟩
end Go.Gp
