/- The program's structs in memory. -/
import Derived.Test.YtploijfgnnkddaaGreatLc
import Derived.Test.YtploijfgnnkddaaGreatDefs
namespace Go.Gp
set_option linter.unusedVariables false
def A1R : Kd L6 := Kd.iso (Kd.pair (Kd.int .i64) (Kd.pair (Kd.int .i64) (Kd.pair (Kd.slice Kd.u8) (Kd.pair (Kd.slice Kd.u8) (Kd.slice Kd.u8))))) (fun x => (x.Kind, (x.Who, (x.Key, (x.Val, x.Old)))))
theorem A1R.open' {M : Mem} {x : L6} {cs : List Value} (h : A1R.K M x cs) : ∃ v2 v3 v4 : Value, cs = [.int .i64 x.Kind, .int .i64 x.Who, v2, v3, v4] ∧ Rd Kd.u8 M v2 x.Key ∧ Rd Kd.u8 M v3 x.Val ∧ Rd Kd.u8 M v4 x.Old := by
  obtain ⟨c0, d0, rfl, rfl, ⟨c1, d1, rfl, rfl, ⟨c2, d2, rfl, ⟨v2, rfl, r2⟩, ⟨c3, d3, rfl, ⟨v3, rfl, r3⟩, ⟨v4, rfl, r4⟩⟩⟩⟩⟩ := h
  exact ⟨v2, v3, v4, rfl, r2, r3, r4⟩
theorem A1R.mk' {M : Mem} {x : L6} {v2 v3 v4 : Value} (r2 : Rd Kd.u8 M v2 x.Key) (r3 : Rd Kd.u8 M v3 x.Val) (r4 : Rd Kd.u8 M v4 x.Old) : A1R.K M x [.int .i64 x.Kind, .int .i64 x.Who, v2, v3, v4] :=
  ⟨[.int .i64 x.Kind], [.int .i64 x.Who, v2, v3, v4], rfl, rfl, ⟨[.int .i64 x.Who], [v2, v3, v4], rfl, rfl, ⟨[v2], [v3, v4], rfl, ⟨v2, rfl, r2⟩, ⟨[v3], [v4], rfl, ⟨v3, rfl, r3⟩, ⟨v4, rfl, r4⟩⟩⟩⟩⟩
def F4 : Kd B8 := Kd.iso (Kd.pair (Kd.int .i64) (Kd.pair (Kd.int .i64) A1R)) (fun x => (x.Sess, (x.Seq, x.Cmd)))
theorem F4.open' {M : Mem} {x : B8} {cs : List Value} (h : F4.K M x cs) : ∃ v4 v5 v6 : Value, cs = [.int .i64 x.Sess, .int .i64 x.Seq, .int .i64 x.Cmd.Kind, .int .i64 x.Cmd.Who, v4, v5, v6] ∧ Rd Kd.u8 M v4 x.Cmd.Key ∧ Rd Kd.u8 M v5 x.Cmd.Val ∧ Rd Kd.u8 M v6 x.Cmd.Old := by
  obtain ⟨c0, d0, rfl, rfl, ⟨c1, d1, rfl, rfl, h2⟩⟩ := h
  obtain ⟨v4, v5, v6, rfl, r4, r5, r6⟩ := A1R.open' h2
  exact ⟨v4, v5, v6, rfl, r4, r5, r6⟩
theorem F4.mk' {M : Mem} {x : B8} {v4 v5 v6 : Value} (r4 : Rd Kd.u8 M v4 x.Cmd.Key) (r5 : Rd Kd.u8 M v5 x.Cmd.Val) (r6 : Rd Kd.u8 M v6 x.Cmd.Old) : F4.K M x [.int .i64 x.Sess, .int .i64 x.Seq, .int .i64 x.Cmd.Kind, .int .i64 x.Cmd.Who, v4, v5, v6] :=
  ⟨[.int .i64 x.Sess], [.int .i64 x.Seq, .int .i64 x.Cmd.Kind, .int .i64 x.Cmd.Who, v4, v5, v6], rfl, rfl, ⟨[.int .i64 x.Seq], [.int .i64 x.Cmd.Kind, .int .i64 x.Cmd.Who, v4, v5, v6], rfl, rfl, (A1R.mk' r4 r5 r6)⟩⟩
def A1r : Kd C4 := Kd.iso (Kd.pair (Kd.int .i64) (Kd.pair (Kd.slice Kd.u8) (Kd.int .i64))) (fun x => (x.Err, (x.Val, x.N)))
theorem A1r.open' {M : Mem} {x : C4} {cs : List Value} (h : A1r.K M x cs) : ∃ v1 : Value, cs = [.int .i64 x.Err, v1, .int .i64 x.N] ∧ Rd Kd.u8 M v1 x.Val := by
  obtain ⟨c0, d0, rfl, rfl, ⟨c1, d1, rfl, ⟨v1, rfl, r1⟩, rfl⟩⟩ := h
  exact ⟨v1, rfl, r1⟩
theorem A1r.mk' {M : Mem} {x : C4} {v1 : Value} (r1 : Rd Kd.u8 M v1 x.Val) : A1r.K M x [.int .i64 x.Err, v1, .int .i64 x.N] :=
  ⟨[.int .i64 x.Err], [v1, .int .i64 x.N], rfl, rfl, ⟨[v1], [.int .i64 x.N], rfl, ⟨v1, rfl, r1⟩, rfl⟩⟩
def B7 : Kd B6 := Kd.iso (Kd.pair (Kd.int .i64) (Kd.pair (Kd.int .i64) A1r)) (fun x => (x.Sess, (x.Seq, x.Result)))
theorem B7.open' {M : Mem} {x : B6} {cs : List Value} (h : B7.K M x cs) : ∃ v3 : Value, cs = [.int .i64 x.Sess, .int .i64 x.Seq, .int .i64 x.Result.Err, v3, .int .i64 x.Result.N] ∧ Rd Kd.u8 M v3 x.Result.Val := by
  obtain ⟨c0, d0, rfl, rfl, ⟨c1, d1, rfl, rfl, h2⟩⟩ := h
  obtain ⟨v3, rfl, r3⟩ := A1r.open' h2
  exact ⟨v3, rfl, r3⟩
theorem B7.mk' {M : Mem} {x : B6} {v3 : Value} (r3 : Rd Kd.u8 M v3 x.Result.Val) : B7.K M x [.int .i64 x.Sess, .int .i64 x.Seq, .int .i64 x.Result.Err, v3, .int .i64 x.Result.N] :=
  ⟨[.int .i64 x.Sess], [.int .i64 x.Seq, .int .i64 x.Result.Err, v3, .int .i64 x.Result.N], rfl, rfl, ⟨[.int .i64 x.Seq], [.int .i64 x.Result.Err, v3, .int .i64 x.Result.N], rfl, rfl, (A1r.mk' r3)⟩⟩
def B5 : Kd A7 := Kd.iso (Kd.pair (Kd.slice Kd.u8) (Kd.slice Kd.u8)) (fun x => (x.Key, x.Val))
theorem B5.open' {M : Mem} {x : A7} {cs : List Value} (h : B5.K M x cs) : ∃ v0 v1 : Value, cs = [v0, v1] ∧ Rd Kd.u8 M v0 x.Key ∧ Rd Kd.u8 M v1 x.Val := by
  obtain ⟨c0, d0, rfl, ⟨v0, rfl, r0⟩, ⟨v1, rfl, r1⟩⟩ := h
  exact ⟨v0, v1, rfl, r0, r1⟩
theorem B5.mk' {M : Mem} {x : A7} {v0 v1 : Value} (r0 : Rd Kd.u8 M v0 x.Key) (r1 : Rd Kd.u8 M v1 x.Val) : B5.K M x [v0, v1] :=
  ⟨[v0], [v1], rfl, ⟨v0, rfl, r0⟩, ⟨v1, rfl, r1⟩⟩
def A1d : Kd C0 := Kd.iso (Kd.pair (Kd.slice Kd.u8) (Kd.pair (Kd.slice (Kd.slice Kd.u8)) (Kd.pair (Kd.slice (Kd.int .i64)) (Kd.slice B5)))) (fun x => (x.Reg, (x.Queue, (x.Lock, x.Map))))
theorem A1d.open' {M : Mem} {x : C0} {cs : List Value} (h : A1d.K M x cs) : ∃ v0 v1 v2 v3 : Value, cs = [v0, v1, v2, v3] ∧ Rd Kd.u8 M v0 x.Reg ∧ Rd (Kd.slice Kd.u8) M v1 x.Queue ∧ Rd (Kd.int .i64) M v2 x.Lock ∧ Rd B5 M v3 x.Map := by
  obtain ⟨c0, d0, rfl, ⟨v0, rfl, r0⟩, ⟨c1, d1, rfl, ⟨v1, rfl, r1⟩, ⟨c2, d2, rfl, ⟨v2, rfl, r2⟩, ⟨v3, rfl, r3⟩⟩⟩⟩ := h
  exact ⟨v0, v1, v2, v3, rfl, r0, r1, r2, r3⟩
theorem A1d.mk' {M : Mem} {x : C0} {v0 v1 v2 v3 : Value} (r0 : Rd Kd.u8 M v0 x.Reg) (r1 : Rd (Kd.slice Kd.u8) M v1 x.Queue) (r2 : Rd (Kd.int .i64) M v2 x.Lock) (r3 : Rd B5 M v3 x.Map) : A1d.K M x [v0, v1, v2, v3] :=
  ⟨[v0], [v1, v2, v3], rfl, ⟨v0, rfl, r0⟩, ⟨[v1], [v2, v3], rfl, ⟨v1, rfl, r1⟩, ⟨[v2], [v3], rfl, ⟨v2, rfl, r2⟩, ⟨v3, rfl, r3⟩⟩⟩⟩
def A1e : Kd A5 := Kd.iso (Kd.pair A1d (Kd.slice B7)) (fun x => (x.Objects, x.Table))
theorem A1e.open' {M : Mem} {x : A5} {cs : List Value} (h : A1e.K M x cs) : ∃ v0 v1 v2 v3 v4 : Value, cs = [v0, v1, v2, v3, v4] ∧ Rd Kd.u8 M v0 x.Objects.Reg ∧ Rd (Kd.slice Kd.u8) M v1 x.Objects.Queue ∧ Rd (Kd.int .i64) M v2 x.Objects.Lock ∧ Rd B5 M v3 x.Objects.Map ∧ Rd B7 M v4 x.Table := by
  obtain ⟨c0, d0, rfl, h0, ⟨v4, rfl, r4⟩⟩ := h
  obtain ⟨v0, v1, v2, v3, rfl, r0, r1, r2, r3⟩ := A1d.open' h0
  exact ⟨v0, v1, v2, v3, v4, rfl, r0, r1, r2, r3, r4⟩
theorem A1e.mk' {M : Mem} {x : A5} {v0 v1 v2 v3 v4 : Value} (r0 : Rd Kd.u8 M v0 x.Objects.Reg) (r1 : Rd (Kd.slice Kd.u8) M v1 x.Objects.Queue) (r2 : Rd (Kd.int .i64) M v2 x.Objects.Lock) (r3 : Rd B5 M v3 x.Objects.Map) (r4 : Rd B7 M v4 x.Table) : A1e.K M x [v0, v1, v2, v3, v4] :=
  ⟨[v0, v1, v2, v3], [v4], rfl, (A1d.mk' r0 r1 r2 r3), ⟨v4, rfl, r4⟩⟩
def A3a : Kd E5 := Kd.iso (Kd.pair (Kd.int .i64) (Kd.pair A1e (Kd.slice F4))) (fun x => (x.At, (x.Machine, x.Rest)))
theorem A3a.open' {M : Mem} {x : E5} {cs : List Value} (h : A3a.K M x cs) : ∃ v1 v2 v3 v4 v5 v6 : Value, cs = [.int .i64 x.At, v1, v2, v3, v4, v5, v6] ∧ Rd Kd.u8 M v1 x.Machine.Objects.Reg ∧ Rd (Kd.slice Kd.u8) M v2 x.Machine.Objects.Queue ∧ Rd (Kd.int .i64) M v3 x.Machine.Objects.Lock ∧ Rd B5 M v4 x.Machine.Objects.Map ∧ Rd B7 M v5 x.Machine.Table ∧ Rd F4 M v6 x.Rest := by
  obtain ⟨c0, d0, rfl, rfl, ⟨c1, d1, rfl, h1, ⟨v6, rfl, r6⟩⟩⟩ := h
  obtain ⟨v1, v2, v3, v4, v5, rfl, r1, r2, r3, r4, r5⟩ := A1e.open' h1
  exact ⟨v1, v2, v3, v4, v5, v6, rfl, r1, r2, r3, r4, r5, r6⟩
theorem A3a.mk' {M : Mem} {x : E5} {v1 v2 v3 v4 v5 v6 : Value} (r1 : Rd Kd.u8 M v1 x.Machine.Objects.Reg) (r2 : Rd (Kd.slice Kd.u8) M v2 x.Machine.Objects.Queue) (r3 : Rd (Kd.int .i64) M v3 x.Machine.Objects.Lock) (r4 : Rd B5 M v4 x.Machine.Objects.Map) (r5 : Rd B7 M v5 x.Machine.Table) (r6 : Rd F4 M v6 x.Rest) : A3a.K M x [.int .i64 x.At, v1, v2, v3, v4, v5, v6] :=
  ⟨[.int .i64 x.At], [v1, v2, v3, v4, v5, v6], rfl, rfl, ⟨[v1, v2, v3, v4, v5], [v6], rfl, (A1e.mk' r1 r2 r3 r4 r5), ⟨v6, rfl, r6⟩⟩⟩
def A2j : Kd C3 := Kd.iso (Kd.pair (Kd.int .i64) (Kd.pair (Kd.int .i64) (Kd.pair (Kd.int .i64) (Kd.pair (Kd.int .i64) (Kd.pair (Kd.int .i64) (Kd.pair (Kd.int .i64) (Kd.pair Kd.bool (Kd.pair (Kd.int .i64) (Kd.pair (Kd.int .i64) (Kd.pair (Kd.int .i64) (Kd.pair (Kd.int .i64) (Kd.pair (Kd.slice Kd.u8) (Kd.pair (Kd.int .i64) (Kd.pair (Kd.int .i64) (Kd.pair (Kd.slice (Kd.int .i64)) (Kd.pair (Kd.slice (Kd.int .i64)) (Kd.pair (Kd.int .i64) F4))))))))))))))))) (fun x => (x.Kind, (x.From, (x.To, (x.View, (x.Inst, (x.Len, (x.Has, (x.Members, (x.Source, (x.At, (x.Total, (x.Data, (x.Hop, (x.Seq, (x.Have, (x.Need, (x.Index, x.Entry))))))))))))))))))
theorem A2j.open' {M : Mem} {x : C3} {cs : List Value} (h : A2j.K M x cs) : ∃ v11 v14 v15 v21 v22 v23 : Value, cs = [.int .i64 x.Kind, .int .i64 x.From, .int .i64 x.To, .int .i64 x.View, .int .i64 x.Inst, .int .i64 x.Len, .bool x.Has, .int .i64 x.Members, .int .i64 x.Source, .int .i64 x.At, .int .i64 x.Total, v11, .int .i64 x.Hop, .int .i64 x.Seq, v14, v15, .int .i64 x.Index, .int .i64 x.Entry.Sess, .int .i64 x.Entry.Seq, .int .i64 x.Entry.Cmd.Kind, .int .i64 x.Entry.Cmd.Who, v21, v22, v23] ∧ Rd Kd.u8 M v11 x.Data ∧ Rd (Kd.int .i64) M v14 x.Have ∧ Rd (Kd.int .i64) M v15 x.Need ∧ Rd Kd.u8 M v21 x.Entry.Cmd.Key ∧ Rd Kd.u8 M v22 x.Entry.Cmd.Val ∧ Rd Kd.u8 M v23 x.Entry.Cmd.Old := by
  obtain ⟨c0, d0, rfl, rfl, ⟨c1, d1, rfl, rfl, ⟨c2, d2, rfl, rfl, ⟨c3, d3, rfl, rfl, ⟨c4, d4, rfl, rfl, ⟨c5, d5, rfl, rfl, ⟨c6, d6, rfl, rfl, ⟨c7, d7, rfl, rfl, ⟨c8, d8, rfl, rfl, ⟨c9, d9, rfl, rfl, ⟨c10, d10, rfl, rfl, ⟨c11, d11, rfl, ⟨v11, rfl, r11⟩, ⟨c12, d12, rfl, rfl, ⟨c13, d13, rfl, rfl, ⟨c14, d14, rfl, ⟨v14, rfl, r14⟩, ⟨c15, d15, rfl, ⟨v15, rfl, r15⟩, ⟨c16, d16, rfl, rfl, h17⟩⟩⟩⟩⟩⟩⟩⟩⟩⟩⟩⟩⟩⟩⟩⟩⟩ := h
  obtain ⟨v21, v22, v23, rfl, r21, r22, r23⟩ := F4.open' h17
  exact ⟨v11, v14, v15, v21, v22, v23, rfl, r11, r14, r15, r21, r22, r23⟩
theorem A2j.mk' {M : Mem} {x : C3} {v11 v14 v15 v21 v22 v23 : Value} (r11 : Rd Kd.u8 M v11 x.Data) (r14 : Rd (Kd.int .i64) M v14 x.Have) (r15 : Rd (Kd.int .i64) M v15 x.Need) (r21 : Rd Kd.u8 M v21 x.Entry.Cmd.Key) (r22 : Rd Kd.u8 M v22 x.Entry.Cmd.Val) (r23 : Rd Kd.u8 M v23 x.Entry.Cmd.Old) : A2j.K M x [.int .i64 x.Kind, .int .i64 x.From, .int .i64 x.To, .int .i64 x.View, .int .i64 x.Inst, .int .i64 x.Len, .bool x.Has, .int .i64 x.Members, .int .i64 x.Source, .int .i64 x.At, .int .i64 x.Total, v11, .int .i64 x.Hop, .int .i64 x.Seq, v14, v15, .int .i64 x.Index, .int .i64 x.Entry.Sess, .int .i64 x.Entry.Seq, .int .i64 x.Entry.Cmd.Kind, .int .i64 x.Entry.Cmd.Who, v21, v22, v23] :=
  ⟨[.int .i64 x.Kind], [.int .i64 x.From, .int .i64 x.To, .int .i64 x.View, .int .i64 x.Inst, .int .i64 x.Len, .bool x.Has, .int .i64 x.Members, .int .i64 x.Source, .int .i64 x.At, .int .i64 x.Total, v11, .int .i64 x.Hop, .int .i64 x.Seq, v14, v15, .int .i64 x.Index, .int .i64 x.Entry.Sess, .int .i64 x.Entry.Seq, .int .i64 x.Entry.Cmd.Kind, .int .i64 x.Entry.Cmd.Who, v21, v22, v23], rfl, rfl, ⟨[.int .i64 x.From], [.int .i64 x.To, .int .i64 x.View, .int .i64 x.Inst, .int .i64 x.Len, .bool x.Has, .int .i64 x.Members, .int .i64 x.Source, .int .i64 x.At, .int .i64 x.Total, v11, .int .i64 x.Hop, .int .i64 x.Seq, v14, v15, .int .i64 x.Index, .int .i64 x.Entry.Sess, .int .i64 x.Entry.Seq, .int .i64 x.Entry.Cmd.Kind, .int .i64 x.Entry.Cmd.Who, v21, v22, v23], rfl, rfl, ⟨[.int .i64 x.To], [.int .i64 x.View, .int .i64 x.Inst, .int .i64 x.Len, .bool x.Has, .int .i64 x.Members, .int .i64 x.Source, .int .i64 x.At, .int .i64 x.Total, v11, .int .i64 x.Hop, .int .i64 x.Seq, v14, v15, .int .i64 x.Index, .int .i64 x.Entry.Sess, .int .i64 x.Entry.Seq, .int .i64 x.Entry.Cmd.Kind, .int .i64 x.Entry.Cmd.Who, v21, v22, v23], rfl, rfl, ⟨[.int .i64 x.View], [.int .i64 x.Inst, .int .i64 x.Len, .bool x.Has, .int .i64 x.Members, .int .i64 x.Source, .int .i64 x.At, .int .i64 x.Total, v11, .int .i64 x.Hop, .int .i64 x.Seq, v14, v15, .int .i64 x.Index, .int .i64 x.Entry.Sess, .int .i64 x.Entry.Seq, .int .i64 x.Entry.Cmd.Kind, .int .i64 x.Entry.Cmd.Who, v21, v22, v23], rfl, rfl, ⟨[.int .i64 x.Inst], [.int .i64 x.Len, .bool x.Has, .int .i64 x.Members, .int .i64 x.Source, .int .i64 x.At, .int .i64 x.Total, v11, .int .i64 x.Hop, .int .i64 x.Seq, v14, v15, .int .i64 x.Index, .int .i64 x.Entry.Sess, .int .i64 x.Entry.Seq, .int .i64 x.Entry.Cmd.Kind, .int .i64 x.Entry.Cmd.Who, v21, v22, v23], rfl, rfl, ⟨[.int .i64 x.Len], [.bool x.Has, .int .i64 x.Members, .int .i64 x.Source, .int .i64 x.At, .int .i64 x.Total, v11, .int .i64 x.Hop, .int .i64 x.Seq, v14, v15, .int .i64 x.Index, .int .i64 x.Entry.Sess, .int .i64 x.Entry.Seq, .int .i64 x.Entry.Cmd.Kind, .int .i64 x.Entry.Cmd.Who, v21, v22, v23], rfl, rfl, ⟨[.bool x.Has], [.int .i64 x.Members, .int .i64 x.Source, .int .i64 x.At, .int .i64 x.Total, v11, .int .i64 x.Hop, .int .i64 x.Seq, v14, v15, .int .i64 x.Index, .int .i64 x.Entry.Sess, .int .i64 x.Entry.Seq, .int .i64 x.Entry.Cmd.Kind, .int .i64 x.Entry.Cmd.Who, v21, v22, v23], rfl, rfl, ⟨[.int .i64 x.Members], [.int .i64 x.Source, .int .i64 x.At, .int .i64 x.Total, v11, .int .i64 x.Hop, .int .i64 x.Seq, v14, v15, .int .i64 x.Index, .int .i64 x.Entry.Sess, .int .i64 x.Entry.Seq, .int .i64 x.Entry.Cmd.Kind, .int .i64 x.Entry.Cmd.Who, v21, v22, v23], rfl, rfl, ⟨[.int .i64 x.Source], [.int .i64 x.At, .int .i64 x.Total, v11, .int .i64 x.Hop, .int .i64 x.Seq, v14, v15, .int .i64 x.Index, .int .i64 x.Entry.Sess, .int .i64 x.Entry.Seq, .int .i64 x.Entry.Cmd.Kind, .int .i64 x.Entry.Cmd.Who, v21, v22, v23], rfl, rfl, ⟨[.int .i64 x.At], [.int .i64 x.Total, v11, .int .i64 x.Hop, .int .i64 x.Seq, v14, v15, .int .i64 x.Index, .int .i64 x.Entry.Sess, .int .i64 x.Entry.Seq, .int .i64 x.Entry.Cmd.Kind, .int .i64 x.Entry.Cmd.Who, v21, v22, v23], rfl, rfl, ⟨[.int .i64 x.Total], [v11, .int .i64 x.Hop, .int .i64 x.Seq, v14, v15, .int .i64 x.Index, .int .i64 x.Entry.Sess, .int .i64 x.Entry.Seq, .int .i64 x.Entry.Cmd.Kind, .int .i64 x.Entry.Cmd.Who, v21, v22, v23], rfl, rfl, ⟨[v11], [.int .i64 x.Hop, .int .i64 x.Seq, v14, v15, .int .i64 x.Index, .int .i64 x.Entry.Sess, .int .i64 x.Entry.Seq, .int .i64 x.Entry.Cmd.Kind, .int .i64 x.Entry.Cmd.Who, v21, v22, v23], rfl, ⟨v11, rfl, r11⟩, ⟨[.int .i64 x.Hop], [.int .i64 x.Seq, v14, v15, .int .i64 x.Index, .int .i64 x.Entry.Sess, .int .i64 x.Entry.Seq, .int .i64 x.Entry.Cmd.Kind, .int .i64 x.Entry.Cmd.Who, v21, v22, v23], rfl, rfl, ⟨[.int .i64 x.Seq], [v14, v15, .int .i64 x.Index, .int .i64 x.Entry.Sess, .int .i64 x.Entry.Seq, .int .i64 x.Entry.Cmd.Kind, .int .i64 x.Entry.Cmd.Who, v21, v22, v23], rfl, rfl, ⟨[v14], [v15, .int .i64 x.Index, .int .i64 x.Entry.Sess, .int .i64 x.Entry.Seq, .int .i64 x.Entry.Cmd.Kind, .int .i64 x.Entry.Cmd.Who, v21, v22, v23], rfl, ⟨v14, rfl, r14⟩, ⟨[v15], [.int .i64 x.Index, .int .i64 x.Entry.Sess, .int .i64 x.Entry.Seq, .int .i64 x.Entry.Cmd.Kind, .int .i64 x.Entry.Cmd.Who, v21, v22, v23], rfl, ⟨v15, rfl, r15⟩, ⟨[.int .i64 x.Index], [.int .i64 x.Entry.Sess, .int .i64 x.Entry.Seq, .int .i64 x.Entry.Cmd.Kind, .int .i64 x.Entry.Cmd.Who, v21, v22, v23], rfl, rfl, (F4.mk' r21 r22 r23)⟩⟩⟩⟩⟩⟩⟩⟩⟩⟩⟩⟩⟩⟩⟩⟩⟩
def A1v : Kd L5 := Kd.iso (Kd.pair (Kd.slice Kd.u8) Kd.bool) (fun x => (x.B, x.Bad))
theorem A1v.open' {M : Mem} {x : L5} {cs : List Value} (h : A1v.K M x cs) : ∃ v0 : Value, cs = [v0, .bool x.Bad] ∧ Rd Kd.u8 M v0 x.B := by
  obtain ⟨c0, d0, rfl, ⟨v0, rfl, r0⟩, rfl⟩ := h
  exact ⟨v0, rfl, r0⟩
theorem A1v.mk' {M : Mem} {x : L5} {v0 : Value} (r0 : Rd Kd.u8 M v0 x.B) : A1v.K M x [v0, .bool x.Bad] :=
  ⟨[v0], [.bool x.Bad], rfl, ⟨v0, rfl, r0⟩, rfl⟩
def A2t : Kd T0 := Kd.iso (Kd.pair (Kd.slice Kd.u8) Kd.bool) (fun x => (x.b, x.bad))
theorem A2t.open' {M : Mem} {x : T0} {cs : List Value} (h : A2t.K M x cs) : ∃ v0 : Value, cs = [v0, .bool x.bad] ∧ Rd Kd.u8 M v0 x.b := by
  obtain ⟨c0, d0, rfl, ⟨v0, rfl, r0⟩, rfl⟩ := h
  exact ⟨v0, rfl, r0⟩
theorem A2t.mk' {M : Mem} {x : T0} {v0 : Value} (r0 : Rd Kd.u8 M v0 x.b) : A2t.K M x [v0, .bool x.bad] :=
  ⟨[v0], [.bool x.bad], rfl, ⟨v0, rfl, r0⟩, rfl⟩
def A2N : Kd R2 := Kd.iso (Kd.pair (Kd.int .i64) (Kd.pair (Kd.int .i64) (Kd.pair (Kd.int .i64) (Kd.pair (Kd.slice Kd.u8) (Kd.pair (Kd.int .i64) (Kd.pair Kd.bool Kd.bool)))))) (fun x => (x.v, (x.me, (x.source, (x.b, (x.total, (x.begun, x.done)))))))
theorem A2N.open' {M : Mem} {x : R2} {cs : List Value} (h : A2N.K M x cs) : ∃ v3 : Value, cs = [.int .i64 x.v, .int .i64 x.me, .int .i64 x.source, v3, .int .i64 x.total, .bool x.begun, .bool x.done] ∧ Rd Kd.u8 M v3 x.b := by
  obtain ⟨c0, d0, rfl, rfl, ⟨c1, d1, rfl, rfl, ⟨c2, d2, rfl, rfl, ⟨c3, d3, rfl, ⟨v3, rfl, r3⟩, ⟨c4, d4, rfl, rfl, ⟨c5, d5, rfl, rfl, rfl⟩⟩⟩⟩⟩⟩ := h
  exact ⟨v3, rfl, r3⟩
theorem A2N.mk' {M : Mem} {x : R2} {v3 : Value} (r3 : Rd Kd.u8 M v3 x.b) : A2N.K M x [.int .i64 x.v, .int .i64 x.me, .int .i64 x.source, v3, .int .i64 x.total, .bool x.begun, .bool x.done] :=
  ⟨[.int .i64 x.v], [.int .i64 x.me, .int .i64 x.source, v3, .int .i64 x.total, .bool x.begun, .bool x.done], rfl, rfl, ⟨[.int .i64 x.me], [.int .i64 x.source, v3, .int .i64 x.total, .bool x.begun, .bool x.done], rfl, rfl, ⟨[.int .i64 x.source], [v3, .int .i64 x.total, .bool x.begun, .bool x.done], rfl, rfl, ⟨[v3], [.int .i64 x.total, .bool x.begun, .bool x.done], rfl, ⟨v3, rfl, r3⟩, ⟨[.int .i64 x.total], [.bool x.begun, .bool x.done], rfl, rfl, ⟨[.bool x.begun], [.bool x.done], rfl, rfl, rfl⟩⟩⟩⟩⟩⟩
def A1w : Kd I9 := Kd.iso (Kd.pair (Kd.int .i64) (Kd.pair (Kd.int .i64) (Kd.pair (Kd.int .i64) (Kd.pair (Kd.int .i64) (Kd.slice Kd.u8))))) (fun x => (x.v, (x.me, (x.source, (x.total, x.b)))))
theorem A1w.open' {M : Mem} {x : I9} {cs : List Value} (h : A1w.K M x cs) : ∃ v4 : Value, cs = [.int .i64 x.v, .int .i64 x.me, .int .i64 x.source, .int .i64 x.total, v4] ∧ Rd Kd.u8 M v4 x.b := by
  obtain ⟨c0, d0, rfl, rfl, ⟨c1, d1, rfl, rfl, ⟨c2, d2, rfl, rfl, ⟨c3, d3, rfl, rfl, ⟨v4, rfl, r4⟩⟩⟩⟩⟩ := h
  exact ⟨v4, rfl, r4⟩
theorem A1w.mk' {M : Mem} {x : I9} {v4 : Value} (r4 : Rd Kd.u8 M v4 x.b) : A1w.K M x [.int .i64 x.v, .int .i64 x.me, .int .i64 x.source, .int .i64 x.total, v4] :=
  ⟨[.int .i64 x.v], [.int .i64 x.me, .int .i64 x.source, .int .i64 x.total, v4], rfl, rfl, ⟨[.int .i64 x.me], [.int .i64 x.source, .int .i64 x.total, v4], rfl, rfl, ⟨[.int .i64 x.source], [.int .i64 x.total, v4], rfl, rfl, ⟨[.int .i64 x.total], [v4], rfl, rfl, ⟨v4, rfl, r4⟩⟩⟩⟩⟩
end Go.Gp
