/- The program's structs in memory. -/
import Derived.Test.YtjpkmlchofpjdaaLc
import Derived.Test.YtjpkmlchofpjdaaDefs
namespace Go.Gp
set_option linter.unusedVariables false
def k_api_Result : Kd api_Result := Kd.iso (Kd.pair (Kd.int .i64) (Kd.pair (Kd.slice Kd.u8) (Kd.int .i64))) (fun x => (x.Err, (x.Val, x.N)))
theorem k_api_Result.open' {M : Mem} {x : api_Result} {cs : List Value} (h : k_api_Result.K M x cs) : ∃ v1 : Value, cs = [.int .i64 x.Err, v1, .int .i64 x.N] ∧ Rd Kd.u8 M v1 x.Val := by
  obtain ⟨c0, d0, rfl, rfl, ⟨c1, d1, rfl, ⟨v1, rfl, r1⟩, rfl⟩⟩ := h
  exact ⟨v1, rfl, r1⟩
theorem k_api_Result.mk' {M : Mem} {x : api_Result} {v1 : Value} (r1 : Rd Kd.u8 M v1 x.Val) : k_api_Result.K M x [.int .i64 x.Err, v1, .int .i64 x.N] :=
  ⟨[.int .i64 x.Err], [v1, .int .i64 x.N], rfl, rfl, ⟨[v1], [.int .i64 x.N], rfl, ⟨v1, rfl, r1⟩, rfl⟩⟩
end Go.Gp
