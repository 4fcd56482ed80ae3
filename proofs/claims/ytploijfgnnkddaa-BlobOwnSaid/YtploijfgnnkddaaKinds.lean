/- The program's structs in memory. -/
import Derived.Test.YtploijfgnnkddaaLc
import Derived.Test.YtploijfgnnkddaaDefs
namespace Go.Gp
set_option linter.unusedVariables false
def k_api_Pair : Kd api_Pair := Kd.iso (Kd.pair (Kd.slice Kd.u8) (Kd.slice Kd.u8)) (fun x => (x.Key, x.Val))
theorem k_api_Pair.open' {M : Mem} {x : api_Pair} {cs : List Value} (h : k_api_Pair.K M x cs) : ∃ v0 v1 : Value, cs = [v0, v1] ∧ Rd Kd.u8 M v0 x.Key ∧ Rd Kd.u8 M v1 x.Val := by
  obtain ⟨c0, d0, rfl, ⟨v0, rfl, r0⟩, ⟨v1, rfl, r1⟩⟩ := h
  exact ⟨v0, v1, rfl, r0, r1⟩
theorem k_api_Pair.mk' {M : Mem} {x : api_Pair} {v0 v1 : Value} (r0 : Rd Kd.u8 M v0 x.Key) (r1 : Rd Kd.u8 M v1 x.Val) : k_api_Pair.K M x [v0, v1] :=
  ⟨[v0], [v1], rfl, ⟨v0, rfl, r0⟩, ⟨v1, rfl, r1⟩⟩
def k_api_Objects : Kd api_Objects := Kd.iso (Kd.pair (Kd.slice Kd.u8) (Kd.pair (Kd.slice (Kd.slice Kd.u8)) (Kd.pair (Kd.slice (Kd.int .i64)) (Kd.slice k_api_Pair)))) (fun x => (x.Reg, (x.Queue, (x.Lock, x.Map))))
theorem k_api_Objects.open' {M : Mem} {x : api_Objects} {cs : List Value} (h : k_api_Objects.K M x cs) : ∃ v0 v1 v2 v3 : Value, cs = [v0, v1, v2, v3] ∧ Rd Kd.u8 M v0 x.Reg ∧ Rd (Kd.slice Kd.u8) M v1 x.Queue ∧ Rd (Kd.int .i64) M v2 x.Lock ∧ Rd k_api_Pair M v3 x.Map := by
  obtain ⟨c0, d0, rfl, ⟨v0, rfl, r0⟩, ⟨c1, d1, rfl, ⟨v1, rfl, r1⟩, ⟨c2, d2, rfl, ⟨v2, rfl, r2⟩, ⟨v3, rfl, r3⟩⟩⟩⟩ := h
  exact ⟨v0, v1, v2, v3, rfl, r0, r1, r2, r3⟩
theorem k_api_Objects.mk' {M : Mem} {x : api_Objects} {v0 v1 v2 v3 : Value} (r0 : Rd Kd.u8 M v0 x.Reg) (r1 : Rd (Kd.slice Kd.u8) M v1 x.Queue) (r2 : Rd (Kd.int .i64) M v2 x.Lock) (r3 : Rd k_api_Pair M v3 x.Map) : k_api_Objects.K M x [v0, v1, v2, v3] :=
  ⟨[v0], [v1, v2, v3], rfl, ⟨v0, rfl, r0⟩, ⟨[v1], [v2, v3], rfl, ⟨v1, rfl, r1⟩, ⟨[v2], [v3], rfl, ⟨v2, rfl, r2⟩, ⟨v3, rfl, r3⟩⟩⟩⟩
def k_api_Result : Kd api_Result := Kd.iso (Kd.pair (Kd.int .i64) (Kd.pair (Kd.slice Kd.u8) (Kd.int .i64))) (fun x => (x.Err, (x.Val, x.N)))
theorem k_api_Result.open' {M : Mem} {x : api_Result} {cs : List Value} (h : k_api_Result.K M x cs) : ∃ v1 : Value, cs = [.int .i64 x.Err, v1, .int .i64 x.N] ∧ Rd Kd.u8 M v1 x.Val := by
  obtain ⟨c0, d0, rfl, rfl, ⟨c1, d1, rfl, ⟨v1, rfl, r1⟩, rfl⟩⟩ := h
  exact ⟨v1, rfl, r1⟩
theorem k_api_Result.mk' {M : Mem} {x : api_Result} {v1 : Value} (r1 : Rd Kd.u8 M v1 x.Val) : k_api_Result.K M x [.int .i64 x.Err, v1, .int .i64 x.N] :=
  ⟨[.int .i64 x.Err], [v1, .int .i64 x.N], rfl, rfl, ⟨[v1], [.int .i64 x.N], rfl, ⟨v1, rfl, r1⟩, rfl⟩⟩
def k_api_Last : Kd api_Last := Kd.iso (Kd.pair (Kd.int .i64) (Kd.pair (Kd.int .i64) k_api_Result)) (fun x => (x.Sess, (x.Seq, x.Result)))
theorem k_api_Last.open' {M : Mem} {x : api_Last} {cs : List Value} (h : k_api_Last.K M x cs) : ∃ v3 : Value, cs = [.int .i64 x.Sess, .int .i64 x.Seq, .int .i64 x.Result.Err, v3, .int .i64 x.Result.N] ∧ Rd Kd.u8 M v3 x.Result.Val := by
  obtain ⟨c0, d0, rfl, rfl, ⟨c1, d1, rfl, rfl, h2⟩⟩ := h
  obtain ⟨v3, rfl, r3⟩ := k_api_Result.open' h2
  exact ⟨v3, rfl, r3⟩
theorem k_api_Last.mk' {M : Mem} {x : api_Last} {v3 : Value} (r3 : Rd Kd.u8 M v3 x.Result.Val) : k_api_Last.K M x [.int .i64 x.Sess, .int .i64 x.Seq, .int .i64 x.Result.Err, v3, .int .i64 x.Result.N] :=
  ⟨[.int .i64 x.Sess], [.int .i64 x.Seq, .int .i64 x.Result.Err, v3, .int .i64 x.Result.N], rfl, rfl, ⟨[.int .i64 x.Seq], [.int .i64 x.Result.Err, v3, .int .i64 x.Result.N], rfl, rfl, (k_api_Result.mk' r3)⟩⟩
def k_api_Machine : Kd api_Machine := Kd.iso (Kd.pair k_api_Objects (Kd.slice k_api_Last)) (fun x => (x.Objects, x.Table))
theorem k_api_Machine.open' {M : Mem} {x : api_Machine} {cs : List Value} (h : k_api_Machine.K M x cs) : ∃ v0 v1 v2 v3 v4 : Value, cs = [v0, v1, v2, v3, v4] ∧ Rd Kd.u8 M v0 x.Objects.Reg ∧ Rd (Kd.slice Kd.u8) M v1 x.Objects.Queue ∧ Rd (Kd.int .i64) M v2 x.Objects.Lock ∧ Rd k_api_Pair M v3 x.Objects.Map ∧ Rd k_api_Last M v4 x.Table := by
  obtain ⟨c0, d0, rfl, h0, ⟨v4, rfl, r4⟩⟩ := h
  obtain ⟨v0, v1, v2, v3, rfl, r0, r1, r2, r3⟩ := k_api_Objects.open' h0
  exact ⟨v0, v1, v2, v3, v4, rfl, r0, r1, r2, r3, r4⟩
theorem k_api_Machine.mk' {M : Mem} {x : api_Machine} {v0 v1 v2 v3 v4 : Value} (r0 : Rd Kd.u8 M v0 x.Objects.Reg) (r1 : Rd (Kd.slice Kd.u8) M v1 x.Objects.Queue) (r2 : Rd (Kd.int .i64) M v2 x.Objects.Lock) (r3 : Rd k_api_Pair M v3 x.Objects.Map) (r4 : Rd k_api_Last M v4 x.Table) : k_api_Machine.K M x [v0, v1, v2, v3, v4] :=
  ⟨[v0, v1, v2, v3], [v4], rfl, (k_api_Objects.mk' r0 r1 r2 r3), ⟨v4, rfl, r4⟩⟩
def k_api_Cmd : Kd api_Cmd := Kd.iso (Kd.pair (Kd.int .i64) (Kd.pair (Kd.int .i64) (Kd.pair (Kd.slice Kd.u8) (Kd.pair (Kd.slice Kd.u8) (Kd.slice Kd.u8))))) (fun x => (x.Kind, (x.Who, (x.Key, (x.Val, x.Old)))))
theorem k_api_Cmd.open' {M : Mem} {x : api_Cmd} {cs : List Value} (h : k_api_Cmd.K M x cs) : ∃ v2 v3 v4 : Value, cs = [.int .i64 x.Kind, .int .i64 x.Who, v2, v3, v4] ∧ Rd Kd.u8 M v2 x.Key ∧ Rd Kd.u8 M v3 x.Val ∧ Rd Kd.u8 M v4 x.Old := by
  obtain ⟨c0, d0, rfl, rfl, ⟨c1, d1, rfl, rfl, ⟨c2, d2, rfl, ⟨v2, rfl, r2⟩, ⟨c3, d3, rfl, ⟨v3, rfl, r3⟩, ⟨v4, rfl, r4⟩⟩⟩⟩⟩ := h
  exact ⟨v2, v3, v4, rfl, r2, r3, r4⟩
theorem k_api_Cmd.mk' {M : Mem} {x : api_Cmd} {v2 v3 v4 : Value} (r2 : Rd Kd.u8 M v2 x.Key) (r3 : Rd Kd.u8 M v3 x.Val) (r4 : Rd Kd.u8 M v4 x.Old) : k_api_Cmd.K M x [.int .i64 x.Kind, .int .i64 x.Who, v2, v3, v4] :=
  ⟨[.int .i64 x.Kind], [.int .i64 x.Who, v2, v3, v4], rfl, rfl, ⟨[.int .i64 x.Who], [v2, v3, v4], rfl, rfl, ⟨[v2], [v3, v4], rfl, ⟨v2, rfl, r2⟩, ⟨[v3], [v4], rfl, ⟨v3, rfl, r3⟩, ⟨v4, rfl, r4⟩⟩⟩⟩⟩
def k_api_Entry : Kd api_Entry := Kd.iso (Kd.pair (Kd.int .i64) (Kd.pair (Kd.int .i64) k_api_Cmd)) (fun x => (x.Sess, (x.Seq, x.Cmd)))
theorem k_api_Entry.open' {M : Mem} {x : api_Entry} {cs : List Value} (h : k_api_Entry.K M x cs) : ∃ v4 v5 v6 : Value, cs = [.int .i64 x.Sess, .int .i64 x.Seq, .int .i64 x.Cmd.Kind, .int .i64 x.Cmd.Who, v4, v5, v6] ∧ Rd Kd.u8 M v4 x.Cmd.Key ∧ Rd Kd.u8 M v5 x.Cmd.Val ∧ Rd Kd.u8 M v6 x.Cmd.Old := by
  obtain ⟨c0, d0, rfl, rfl, ⟨c1, d1, rfl, rfl, h2⟩⟩ := h
  obtain ⟨v4, v5, v6, rfl, r4, r5, r6⟩ := k_api_Cmd.open' h2
  exact ⟨v4, v5, v6, rfl, r4, r5, r6⟩
theorem k_api_Entry.mk' {M : Mem} {x : api_Entry} {v4 v5 v6 : Value} (r4 : Rd Kd.u8 M v4 x.Cmd.Key) (r5 : Rd Kd.u8 M v5 x.Cmd.Val) (r6 : Rd Kd.u8 M v6 x.Cmd.Old) : k_api_Entry.K M x [.int .i64 x.Sess, .int .i64 x.Seq, .int .i64 x.Cmd.Kind, .int .i64 x.Cmd.Who, v4, v5, v6] :=
  ⟨[.int .i64 x.Sess], [.int .i64 x.Seq, .int .i64 x.Cmd.Kind, .int .i64 x.Cmd.Who, v4, v5, v6], rfl, rfl, ⟨[.int .i64 x.Seq], [.int .i64 x.Cmd.Kind, .int .i64 x.Cmd.Who, v4, v5, v6], rfl, rfl, (k_api_Cmd.mk' r4 r5 r6)⟩⟩
def k_api_State : Kd api_State := Kd.iso (Kd.pair (Kd.int .i64) (Kd.pair k_api_Machine (Kd.slice k_api_Entry))) (fun x => (x.At, (x.Machine, x.Rest)))
theorem k_api_State.open' {M : Mem} {x : api_State} {cs : List Value} (h : k_api_State.K M x cs) : ∃ v1 v2 v3 v4 v5 v6 : Value, cs = [.int .i64 x.At, v1, v2, v3, v4, v5, v6] ∧ Rd Kd.u8 M v1 x.Machine.Objects.Reg ∧ Rd (Kd.slice Kd.u8) M v2 x.Machine.Objects.Queue ∧ Rd (Kd.int .i64) M v3 x.Machine.Objects.Lock ∧ Rd k_api_Pair M v4 x.Machine.Objects.Map ∧ Rd k_api_Last M v5 x.Machine.Table ∧ Rd k_api_Entry M v6 x.Rest := by
  obtain ⟨c0, d0, rfl, rfl, ⟨c1, d1, rfl, h1, ⟨v6, rfl, r6⟩⟩⟩ := h
  obtain ⟨v1, v2, v3, v4, v5, rfl, r1, r2, r3, r4, r5⟩ := k_api_Machine.open' h1
  exact ⟨v1, v2, v3, v4, v5, v6, rfl, r1, r2, r3, r4, r5, r6⟩
theorem k_api_State.mk' {M : Mem} {x : api_State} {v1 v2 v3 v4 v5 v6 : Value} (r1 : Rd Kd.u8 M v1 x.Machine.Objects.Reg) (r2 : Rd (Kd.slice Kd.u8) M v2 x.Machine.Objects.Queue) (r3 : Rd (Kd.int .i64) M v3 x.Machine.Objects.Lock) (r4 : Rd k_api_Pair M v4 x.Machine.Objects.Map) (r5 : Rd k_api_Last M v5 x.Machine.Table) (r6 : Rd k_api_Entry M v6 x.Rest) : k_api_State.K M x [.int .i64 x.At, v1, v2, v3, v4, v5, v6] :=
  ⟨[.int .i64 x.At], [v1, v2, v3, v4, v5, v6], rfl, rfl, ⟨[v1, v2, v3, v4, v5], [v6], rfl, (k_api_Machine.mk' r1 r2 r3 r4 r5), ⟨v6, rfl, r6⟩⟩⟩
def k_An_b_ok : Kd An_b_ok := Kd.iso (Kd.pair (Kd.slice Kd.u8) Kd.bool) (fun x => (x.b, x.ok))
theorem k_An_b_ok.open' {M : Mem} {x : An_b_ok} {cs : List Value} (h : k_An_b_ok.K M x cs) : ∃ v0 : Value, cs = [v0, .bool x.ok] ∧ Rd Kd.u8 M v0 x.b := by
  obtain ⟨c0, d0, rfl, ⟨v0, rfl, r0⟩, rfl⟩ := h
  exact ⟨v0, rfl, r0⟩
theorem k_An_b_ok.mk' {M : Mem} {x : An_b_ok} {v0 : Value} (r0 : Rd Kd.u8 M v0 x.b) : k_An_b_ok.K M x [v0, .bool x.ok] :=
  ⟨[v0], [.bool x.ok], rfl, ⟨v0, rfl, r0⟩, rfl⟩
def k_hocketref1_Reader : Kd hocketref1_Reader := Kd.iso (Kd.pair (Kd.slice Kd.u8) Kd.bool) (fun x => (x.B, x.Bad))
theorem k_hocketref1_Reader.open' {M : Mem} {x : hocketref1_Reader} {cs : List Value} (h : k_hocketref1_Reader.K M x cs) : ∃ v0 : Value, cs = [v0, .bool x.Bad] ∧ Rd Kd.u8 M v0 x.B := by
  obtain ⟨c0, d0, rfl, ⟨v0, rfl, r0⟩, rfl⟩ := h
  exact ⟨v0, rfl, r0⟩
theorem k_hocketref1_Reader.mk' {M : Mem} {x : hocketref1_Reader} {v0 : Value} (r0 : Rd Kd.u8 M v0 x.B) : k_hocketref1_Reader.K M x [v0, .bool x.Bad] :=
  ⟨[v0], [.bool x.Bad], rfl, ⟨v0, rfl, r0⟩, rfl⟩
def k_api_Msg : Kd api_Msg := Kd.iso (Kd.pair (Kd.int .i64) (Kd.pair (Kd.int .i64) (Kd.pair (Kd.int .i64) (Kd.pair (Kd.int .i64) (Kd.pair (Kd.int .i64) (Kd.pair (Kd.int .i64) (Kd.pair Kd.bool (Kd.pair (Kd.int .i64) (Kd.pair (Kd.int .i64) (Kd.pair (Kd.int .i64) (Kd.pair (Kd.int .i64) (Kd.pair (Kd.slice Kd.u8) (Kd.pair (Kd.int .i64) (Kd.pair (Kd.int .i64) (Kd.pair (Kd.slice (Kd.int .i64)) (Kd.pair (Kd.slice (Kd.int .i64)) (Kd.pair (Kd.int .i64) k_api_Entry))))))))))))))))) (fun x => (x.Kind, (x.From, (x.To, (x.View, (x.Inst, (x.Len, (x.Has, (x.Members, (x.Source, (x.At, (x.Total, (x.Data, (x.Hop, (x.Seq, (x.Have, (x.Need, (x.Index, x.Entry))))))))))))))))))
theorem k_api_Msg.open' {M : Mem} {x : api_Msg} {cs : List Value} (h : k_api_Msg.K M x cs) : ∃ v11 v14 v15 v21 v22 v23 : Value, cs = [.int .i64 x.Kind, .int .i64 x.From, .int .i64 x.To, .int .i64 x.View, .int .i64 x.Inst, .int .i64 x.Len, .bool x.Has, .int .i64 x.Members, .int .i64 x.Source, .int .i64 x.At, .int .i64 x.Total, v11, .int .i64 x.Hop, .int .i64 x.Seq, v14, v15, .int .i64 x.Index, .int .i64 x.Entry.Sess, .int .i64 x.Entry.Seq, .int .i64 x.Entry.Cmd.Kind, .int .i64 x.Entry.Cmd.Who, v21, v22, v23] ∧ Rd Kd.u8 M v11 x.Data ∧ Rd (Kd.int .i64) M v14 x.Have ∧ Rd (Kd.int .i64) M v15 x.Need ∧ Rd Kd.u8 M v21 x.Entry.Cmd.Key ∧ Rd Kd.u8 M v22 x.Entry.Cmd.Val ∧ Rd Kd.u8 M v23 x.Entry.Cmd.Old := by
  obtain ⟨c0, d0, rfl, rfl, ⟨c1, d1, rfl, rfl, ⟨c2, d2, rfl, rfl, ⟨c3, d3, rfl, rfl, ⟨c4, d4, rfl, rfl, ⟨c5, d5, rfl, rfl, ⟨c6, d6, rfl, rfl, ⟨c7, d7, rfl, rfl, ⟨c8, d8, rfl, rfl, ⟨c9, d9, rfl, rfl, ⟨c10, d10, rfl, rfl, ⟨c11, d11, rfl, ⟨v11, rfl, r11⟩, ⟨c12, d12, rfl, rfl, ⟨c13, d13, rfl, rfl, ⟨c14, d14, rfl, ⟨v14, rfl, r14⟩, ⟨c15, d15, rfl, ⟨v15, rfl, r15⟩, ⟨c16, d16, rfl, rfl, h17⟩⟩⟩⟩⟩⟩⟩⟩⟩⟩⟩⟩⟩⟩⟩⟩⟩ := h
  obtain ⟨v21, v22, v23, rfl, r21, r22, r23⟩ := k_api_Entry.open' h17
  exact ⟨v11, v14, v15, v21, v22, v23, rfl, r11, r14, r15, r21, r22, r23⟩
theorem k_api_Msg.mk' {M : Mem} {x : api_Msg} {v11 v14 v15 v21 v22 v23 : Value} (r11 : Rd Kd.u8 M v11 x.Data) (r14 : Rd (Kd.int .i64) M v14 x.Have) (r15 : Rd (Kd.int .i64) M v15 x.Need) (r21 : Rd Kd.u8 M v21 x.Entry.Cmd.Key) (r22 : Rd Kd.u8 M v22 x.Entry.Cmd.Val) (r23 : Rd Kd.u8 M v23 x.Entry.Cmd.Old) : k_api_Msg.K M x [.int .i64 x.Kind, .int .i64 x.From, .int .i64 x.To, .int .i64 x.View, .int .i64 x.Inst, .int .i64 x.Len, .bool x.Has, .int .i64 x.Members, .int .i64 x.Source, .int .i64 x.At, .int .i64 x.Total, v11, .int .i64 x.Hop, .int .i64 x.Seq, v14, v15, .int .i64 x.Index, .int .i64 x.Entry.Sess, .int .i64 x.Entry.Seq, .int .i64 x.Entry.Cmd.Kind, .int .i64 x.Entry.Cmd.Who, v21, v22, v23] :=
  ⟨[.int .i64 x.Kind], [.int .i64 x.From, .int .i64 x.To, .int .i64 x.View, .int .i64 x.Inst, .int .i64 x.Len, .bool x.Has, .int .i64 x.Members, .int .i64 x.Source, .int .i64 x.At, .int .i64 x.Total, v11, .int .i64 x.Hop, .int .i64 x.Seq, v14, v15, .int .i64 x.Index, .int .i64 x.Entry.Sess, .int .i64 x.Entry.Seq, .int .i64 x.Entry.Cmd.Kind, .int .i64 x.Entry.Cmd.Who, v21, v22, v23], rfl, rfl, ⟨[.int .i64 x.From], [.int .i64 x.To, .int .i64 x.View, .int .i64 x.Inst, .int .i64 x.Len, .bool x.Has, .int .i64 x.Members, .int .i64 x.Source, .int .i64 x.At, .int .i64 x.Total, v11, .int .i64 x.Hop, .int .i64 x.Seq, v14, v15, .int .i64 x.Index, .int .i64 x.Entry.Sess, .int .i64 x.Entry.Seq, .int .i64 x.Entry.Cmd.Kind, .int .i64 x.Entry.Cmd.Who, v21, v22, v23], rfl, rfl, ⟨[.int .i64 x.To], [.int .i64 x.View, .int .i64 x.Inst, .int .i64 x.Len, .bool x.Has, .int .i64 x.Members, .int .i64 x.Source, .int .i64 x.At, .int .i64 x.Total, v11, .int .i64 x.Hop, .int .i64 x.Seq, v14, v15, .int .i64 x.Index, .int .i64 x.Entry.Sess, .int .i64 x.Entry.Seq, .int .i64 x.Entry.Cmd.Kind, .int .i64 x.Entry.Cmd.Who, v21, v22, v23], rfl, rfl, ⟨[.int .i64 x.View], [.int .i64 x.Inst, .int .i64 x.Len, .bool x.Has, .int .i64 x.Members, .int .i64 x.Source, .int .i64 x.At, .int .i64 x.Total, v11, .int .i64 x.Hop, .int .i64 x.Seq, v14, v15, .int .i64 x.Index, .int .i64 x.Entry.Sess, .int .i64 x.Entry.Seq, .int .i64 x.Entry.Cmd.Kind, .int .i64 x.Entry.Cmd.Who, v21, v22, v23], rfl, rfl, ⟨[.int .i64 x.Inst], [.int .i64 x.Len, .bool x.Has, .int .i64 x.Members, .int .i64 x.Source, .int .i64 x.At, .int .i64 x.Total, v11, .int .i64 x.Hop, .int .i64 x.Seq, v14, v15, .int .i64 x.Index, .int .i64 x.Entry.Sess, .int .i64 x.Entry.Seq, .int .i64 x.Entry.Cmd.Kind, .int .i64 x.Entry.Cmd.Who, v21, v22, v23], rfl, rfl, ⟨[.int .i64 x.Len], [.bool x.Has, .int .i64 x.Members, .int .i64 x.Source, .int .i64 x.At, .int .i64 x.Total, v11, .int .i64 x.Hop, .int .i64 x.Seq, v14, v15, .int .i64 x.Index, .int .i64 x.Entry.Sess, .int .i64 x.Entry.Seq, .int .i64 x.Entry.Cmd.Kind, .int .i64 x.Entry.Cmd.Who, v21, v22, v23], rfl, rfl, ⟨[.bool x.Has], [.int .i64 x.Members, .int .i64 x.Source, .int .i64 x.At, .int .i64 x.Total, v11, .int .i64 x.Hop, .int .i64 x.Seq, v14, v15, .int .i64 x.Index, .int .i64 x.Entry.Sess, .int .i64 x.Entry.Seq, .int .i64 x.Entry.Cmd.Kind, .int .i64 x.Entry.Cmd.Who, v21, v22, v23], rfl, rfl, ⟨[.int .i64 x.Members], [.int .i64 x.Source, .int .i64 x.At, .int .i64 x.Total, v11, .int .i64 x.Hop, .int .i64 x.Seq, v14, v15, .int .i64 x.Index, .int .i64 x.Entry.Sess, .int .i64 x.Entry.Seq, .int .i64 x.Entry.Cmd.Kind, .int .i64 x.Entry.Cmd.Who, v21, v22, v23], rfl, rfl, ⟨[.int .i64 x.Source], [.int .i64 x.At, .int .i64 x.Total, v11, .int .i64 x.Hop, .int .i64 x.Seq, v14, v15, .int .i64 x.Index, .int .i64 x.Entry.Sess, .int .i64 x.Entry.Seq, .int .i64 x.Entry.Cmd.Kind, .int .i64 x.Entry.Cmd.Who, v21, v22, v23], rfl, rfl, ⟨[.int .i64 x.At], [.int .i64 x.Total, v11, .int .i64 x.Hop, .int .i64 x.Seq, v14, v15, .int .i64 x.Index, .int .i64 x.Entry.Sess, .int .i64 x.Entry.Seq, .int .i64 x.Entry.Cmd.Kind, .int .i64 x.Entry.Cmd.Who, v21, v22, v23], rfl, rfl, ⟨[.int .i64 x.Total], [v11, .int .i64 x.Hop, .int .i64 x.Seq, v14, v15, .int .i64 x.Index, .int .i64 x.Entry.Sess, .int .i64 x.Entry.Seq, .int .i64 x.Entry.Cmd.Kind, .int .i64 x.Entry.Cmd.Who, v21, v22, v23], rfl, rfl, ⟨[v11], [.int .i64 x.Hop, .int .i64 x.Seq, v14, v15, .int .i64 x.Index, .int .i64 x.Entry.Sess, .int .i64 x.Entry.Seq, .int .i64 x.Entry.Cmd.Kind, .int .i64 x.Entry.Cmd.Who, v21, v22, v23], rfl, ⟨v11, rfl, r11⟩, ⟨[.int .i64 x.Hop], [.int .i64 x.Seq, v14, v15, .int .i64 x.Index, .int .i64 x.Entry.Sess, .int .i64 x.Entry.Seq, .int .i64 x.Entry.Cmd.Kind, .int .i64 x.Entry.Cmd.Who, v21, v22, v23], rfl, rfl, ⟨[.int .i64 x.Seq], [v14, v15, .int .i64 x.Index, .int .i64 x.Entry.Sess, .int .i64 x.Entry.Seq, .int .i64 x.Entry.Cmd.Kind, .int .i64 x.Entry.Cmd.Who, v21, v22, v23], rfl, rfl, ⟨[v14], [v15, .int .i64 x.Index, .int .i64 x.Entry.Sess, .int .i64 x.Entry.Seq, .int .i64 x.Entry.Cmd.Kind, .int .i64 x.Entry.Cmd.Who, v21, v22, v23], rfl, ⟨v14, rfl, r14⟩, ⟨[v15], [.int .i64 x.Index, .int .i64 x.Entry.Sess, .int .i64 x.Entry.Seq, .int .i64 x.Entry.Cmd.Kind, .int .i64 x.Entry.Cmd.Who, v21, v22, v23], rfl, ⟨v15, rfl, r15⟩, ⟨[.int .i64 x.Index], [.int .i64 x.Entry.Sess, .int .i64 x.Entry.Seq, .int .i64 x.Entry.Cmd.Kind, .int .i64 x.Entry.Cmd.Who, v21, v22, v23], rfl, rfl, (k_api_Entry.mk' r21 r22 r23)⟩⟩⟩⟩⟩⟩⟩⟩⟩⟩⟩⟩⟩⟩⟩⟩⟩
def k_pack_Reader : Kd pack_Reader := Kd.iso (Kd.pair (Kd.slice Kd.u8) Kd.bool) (fun x => (x.b, x.bad))
theorem k_pack_Reader.open' {M : Mem} {x : pack_Reader} {cs : List Value} (h : k_pack_Reader.K M x cs) : ∃ v0 : Value, cs = [v0, .bool x.bad] ∧ Rd Kd.u8 M v0 x.b := by
  obtain ⟨c0, d0, rfl, ⟨v0, rfl, r0⟩, rfl⟩ := h
  exact ⟨v0, rfl, r0⟩
theorem k_pack_Reader.mk' {M : Mem} {x : pack_Reader} {v0 : Value} (r0 : Rd Kd.u8 M v0 x.b) : k_pack_Reader.K M x [v0, .bool x.bad] :=
  ⟨[v0], [.bool x.bad], rfl, ⟨v0, rfl, r0⟩, rfl⟩
end Go.Gp
