/- The program's structs in memory. -/
import Derived.Test.YtpfpojfcbdepnaaLc
import Derived.Test.YtpfpojfcbdepnaaDefs
namespace Go.Gp
set_option linter.unusedVariables false
def k_api_Cmd : Kd api_Cmd := Kd.iso (Kd.pair (Kd.int .i64) (Kd.pair (Kd.int .i64) (Kd.pair (Kd.slice Kd.u8) (Kd.pair (Kd.slice Kd.u8) (Kd.slice Kd.u8))))) (fun x => (x.Kind, (x.Who, (x.Key, (x.Val, x.Old)))))
theorem k_api_Cmd.open' {M : Mem} {x : api_Cmd} {cs : List Value} (h : k_api_Cmd.K M x cs) : ∃ v2 v3 v4 : Value, cs = [.int .i64 x.Kind, .int .i64 x.Who, v2, v3, v4] ∧ Rd Kd.u8 M v2 x.Key ∧ Rd Kd.u8 M v3 x.Val ∧ Rd Kd.u8 M v4 x.Old := by
  obtain ⟨c0, d0, rfl, rfl, ⟨c1, d1, rfl, rfl, ⟨c2, d2, rfl, ⟨v2, rfl, r2⟩, ⟨c3, d3, rfl, ⟨v3, rfl, r3⟩, ⟨v4, rfl, r4⟩⟩⟩⟩⟩ := h
  exact ⟨v2, v3, v4, rfl, r2, r3, r4⟩
theorem k_api_Cmd.mk' {M : Mem} {x : api_Cmd} {v2 v3 v4 : Value} (r2 : Rd Kd.u8 M v2 x.Key) (r3 : Rd Kd.u8 M v3 x.Val) (r4 : Rd Kd.u8 M v4 x.Old) : k_api_Cmd.K M x [.int .i64 x.Kind, .int .i64 x.Who, v2, v3, v4] :=
  ⟨[.int .i64 x.Kind], [.int .i64 x.Who, v2, v3, v4], rfl, rfl, ⟨[.int .i64 x.Who], [v2, v3, v4], rfl, rfl, ⟨[v2], [v3, v4], rfl, ⟨v2, rfl, r2⟩, ⟨[v3], [v4], rfl, ⟨v3, rfl, r3⟩, ⟨v4, rfl, r4⟩⟩⟩⟩⟩
def k_api_Entry : Kd api_Entry := Kd.iso (Kd.pair (Kd.int .i64) (Kd.pair (Kd.int .i64) k_api_Cmd)) (fun x => (x.Sess, (x.Seq, x.Cmd)))
theorem k_api_Entry.open' {M : Mem} {x : api_Entry} {cs : List Value} (h : k_api_Entry.K M x cs) : ∃ v4 v5 v6 : Value, cs = [.int .i64 x.Sess, .int .i64 x.Seq, .int .i64 x.Cmd.Kind, .int .i64 x.Cmd.Who, v4, v5, v6] ∧ Rd Kd.u8 M v4 x.Cmd.Key ∧ Rd Kd.u8 M v5 x.Cmd.Val ∧ Rd Kd.u8 M v6 x.Cmd.Old := by
  obtain ⟨c0, d0, rfl, rfl, ⟨c1, d1, rfl, rfl, h2⟩⟩ := h
  obtain ⟨v4, v5, v6, rfl, r4, r5, r6⟩ := k_api_Cmd.open' h2
  exact ⟨v4, v5, v6, rfl, r4, r5, r6⟩
theorem k_api_Entry.mk' {M : Mem} {x : api_Entry} {v4 v5 v6 : Value} (r4 : Rd Kd.u8 M v4 x.Cmd.Key) (r5 : Rd Kd.u8 M v5 x.Cmd.Val) (r6 : Rd Kd.u8 M v6 x.Cmd.Old) : k_api_Entry.K M x [.int .i64 x.Sess, .int .i64 x.Seq, .int .i64 x.Cmd.Kind, .int .i64 x.Cmd.Who, v4, v5, v6] :=
  ⟨[.int .i64 x.Sess], [.int .i64 x.Seq, .int .i64 x.Cmd.Kind, .int .i64 x.Cmd.Who, v4, v5, v6], rfl, rfl, ⟨[.int .i64 x.Seq], [.int .i64 x.Cmd.Kind, .int .i64 x.Cmd.Who, v4, v5, v6], rfl, rfl, (k_api_Cmd.mk' r4 r5 r6)⟩⟩
def k_wait_call : Kd wait_call := Kd.iso (Kd.pair k_api_Entry Kd.bool) (fun x => (x.e, x.sent))
theorem k_wait_call.open' {M : Mem} {x : wait_call} {cs : List Value} (h : k_wait_call.K M x cs) : ∃ v4 v5 v6 : Value, cs = [.int .i64 x.e.Sess, .int .i64 x.e.Seq, .int .i64 x.e.Cmd.Kind, .int .i64 x.e.Cmd.Who, v4, v5, v6, .bool x.sent] ∧ Rd Kd.u8 M v4 x.e.Cmd.Key ∧ Rd Kd.u8 M v5 x.e.Cmd.Val ∧ Rd Kd.u8 M v6 x.e.Cmd.Old := by
  obtain ⟨c0, d0, rfl, h0, rfl⟩ := h
  obtain ⟨v4, v5, v6, rfl, r4, r5, r6⟩ := k_api_Entry.open' h0
  exact ⟨v4, v5, v6, rfl, r4, r5, r6⟩
theorem k_wait_call.mk' {M : Mem} {x : wait_call} {v4 v5 v6 : Value} (r4 : Rd Kd.u8 M v4 x.e.Cmd.Key) (r5 : Rd Kd.u8 M v5 x.e.Cmd.Val) (r6 : Rd Kd.u8 M v6 x.e.Cmd.Old) : k_wait_call.K M x [.int .i64 x.e.Sess, .int .i64 x.e.Seq, .int .i64 x.e.Cmd.Kind, .int .i64 x.e.Cmd.Who, v4, v5, v6, .bool x.sent] :=
  ⟨[.int .i64 x.e.Sess, .int .i64 x.e.Seq, .int .i64 x.e.Cmd.Kind, .int .i64 x.e.Cmd.Who, v4, v5, v6], [.bool x.sent], rfl, (k_api_Entry.mk' r4 r5 r6), rfl⟩
def k_api_Result : Kd api_Result := Kd.iso (Kd.pair (Kd.int .i64) (Kd.pair (Kd.slice Kd.u8) (Kd.int .i64))) (fun x => (x.Err, (x.Val, x.N)))
theorem k_api_Result.open' {M : Mem} {x : api_Result} {cs : List Value} (h : k_api_Result.K M x cs) : ∃ v1 : Value, cs = [.int .i64 x.Err, v1, .int .i64 x.N] ∧ Rd Kd.u8 M v1 x.Val := by
  obtain ⟨c0, d0, rfl, rfl, ⟨c1, d1, rfl, ⟨v1, rfl, r1⟩, rfl⟩⟩ := h
  exact ⟨v1, rfl, r1⟩
theorem k_api_Result.mk' {M : Mem} {x : api_Result} {v1 : Value} (r1 : Rd Kd.u8 M v1 x.Val) : k_api_Result.K M x [.int .i64 x.Err, v1, .int .i64 x.N] :=
  ⟨[.int .i64 x.Err], [v1, .int .i64 x.N], rfl, rfl, ⟨[v1], [.int .i64 x.N], rfl, ⟨v1, rfl, r1⟩, rfl⟩⟩
def k_api_Reply : Kd api_Reply := Kd.iso (Kd.pair (Kd.int .i64) (Kd.pair (Kd.int .i64) k_api_Result)) (fun x => (x.Sess, (x.Seq, x.Result)))
theorem k_api_Reply.open' {M : Mem} {x : api_Reply} {cs : List Value} (h : k_api_Reply.K M x cs) : ∃ v3 : Value, cs = [.int .i64 x.Sess, .int .i64 x.Seq, .int .i64 x.Result.Err, v3, .int .i64 x.Result.N] ∧ Rd Kd.u8 M v3 x.Result.Val := by
  obtain ⟨c0, d0, rfl, rfl, ⟨c1, d1, rfl, rfl, h2⟩⟩ := h
  obtain ⟨v3, rfl, r3⟩ := k_api_Result.open' h2
  exact ⟨v3, rfl, r3⟩
theorem k_api_Reply.mk' {M : Mem} {x : api_Reply} {v3 : Value} (r3 : Rd Kd.u8 M v3 x.Result.Val) : k_api_Reply.K M x [.int .i64 x.Sess, .int .i64 x.Seq, .int .i64 x.Result.Err, v3, .int .i64 x.Result.N] :=
  ⟨[.int .i64 x.Sess], [.int .i64 x.Seq, .int .i64 x.Result.Err, v3, .int .i64 x.Result.N], rfl, rfl, ⟨[.int .i64 x.Seq], [.int .i64 x.Result.Err, v3, .int .i64 x.Result.N], rfl, rfl, (k_api_Result.mk' r3)⟩⟩
def k_api_Done : Kd api_Done := Kd.iso (Kd.pair (Kd.int .i64) (Kd.pair k_api_Entry k_api_Result)) (fun x => (x.Index, (x.Entry, x.Result)))
theorem k_api_Done.open' {M : Mem} {x : api_Done} {cs : List Value} (h : k_api_Done.K M x cs) : ∃ v5 v6 v7 v9 : Value, cs = [.int .i64 x.Index, .int .i64 x.Entry.Sess, .int .i64 x.Entry.Seq, .int .i64 x.Entry.Cmd.Kind, .int .i64 x.Entry.Cmd.Who, v5, v6, v7, .int .i64 x.Result.Err, v9, .int .i64 x.Result.N] ∧ Rd Kd.u8 M v5 x.Entry.Cmd.Key ∧ Rd Kd.u8 M v6 x.Entry.Cmd.Val ∧ Rd Kd.u8 M v7 x.Entry.Cmd.Old ∧ Rd Kd.u8 M v9 x.Result.Val := by
  obtain ⟨c0, d0, rfl, rfl, ⟨c1, d1, rfl, h1, h2⟩⟩ := h
  obtain ⟨v5, v6, v7, rfl, r5, r6, r7⟩ := k_api_Entry.open' h1
  obtain ⟨v9, rfl, r9⟩ := k_api_Result.open' h2
  exact ⟨v5, v6, v7, v9, rfl, r5, r6, r7, r9⟩
theorem k_api_Done.mk' {M : Mem} {x : api_Done} {v5 v6 v7 v9 : Value} (r5 : Rd Kd.u8 M v5 x.Entry.Cmd.Key) (r6 : Rd Kd.u8 M v6 x.Entry.Cmd.Val) (r7 : Rd Kd.u8 M v7 x.Entry.Cmd.Old) (r9 : Rd Kd.u8 M v9 x.Result.Val) : k_api_Done.K M x [.int .i64 x.Index, .int .i64 x.Entry.Sess, .int .i64 x.Entry.Seq, .int .i64 x.Entry.Cmd.Kind, .int .i64 x.Entry.Cmd.Who, v5, v6, v7, .int .i64 x.Result.Err, v9, .int .i64 x.Result.N] :=
  ⟨[.int .i64 x.Index], [.int .i64 x.Entry.Sess, .int .i64 x.Entry.Seq, .int .i64 x.Entry.Cmd.Kind, .int .i64 x.Entry.Cmd.Who, v5, v6, v7, .int .i64 x.Result.Err, v9, .int .i64 x.Result.N], rfl, rfl, ⟨[.int .i64 x.Entry.Sess, .int .i64 x.Entry.Seq, .int .i64 x.Entry.Cmd.Kind, .int .i64 x.Entry.Cmd.Who, v5, v6, v7], [.int .i64 x.Result.Err, v9, .int .i64 x.Result.N], rfl, (k_api_Entry.mk' r5 r6 r7), (k_api_Result.mk' r9)⟩⟩
def k_wait_Calls : Kd wait_Calls := Kd.iso (Kd.pair (Kd.slice k_wait_call) (Kd.slice k_api_Reply)) (fun x => (x.l, x.done))
theorem k_wait_Calls.open' {M : Mem} {x : wait_Calls} {cs : List Value} (h : k_wait_Calls.K M x cs) : ∃ v0 v1 : Value, cs = [v0, v1] ∧ Rd k_wait_call M v0 x.l ∧ Rd k_api_Reply M v1 x.done := by
  obtain ⟨c0, d0, rfl, ⟨v0, rfl, r0⟩, ⟨v1, rfl, r1⟩⟩ := h
  exact ⟨v0, v1, rfl, r0, r1⟩
theorem k_wait_Calls.mk' {M : Mem} {x : wait_Calls} {v0 v1 : Value} (r0 : Rd k_wait_call M v0 x.l) (r1 : Rd k_api_Reply M v1 x.done) : k_wait_Calls.K M x [v0, v1] :=
  ⟨[v0], [v1], rfl, ⟨v0, rfl, r0⟩, ⟨v1, rfl, r1⟩⟩
end Go.Gp
