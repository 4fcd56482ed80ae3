/- Facts of the program's types. -/
import Derived.Test.YtploijfgnnkddaaGreatProg
import Derived.KernelRfl
import Derived.Test.YtploijfgnnkddaaGreatKinds
namespace Go.Proofs
open Go.Gp
theorem ti3 : TI Tryz.prog 3 [(.int .i64 0)] (.int .i64 0) 8 := TI.mk (by kernel_rfl) rfl
theorem ti4 : TI Tryz.prog 4 [(.bool false)] (.bool false) 1 := TI.mk (by kernel_rfl) rfl
theorem ti5 : TI Tryz.prog 5 [(.int .u8 0)] (.int .u8 0) 1 := TI.mk (by kernel_rfl) rfl
theorem ti9 : TI Tryz.prog 9 [(.string ⟨#[]⟩)] (.string ⟨#[]⟩) 16 := TI.mk (by kernel_rfl) rfl
theorem ti22 : TI Tryz.prog 22 [(.slice none 0 0)] (.slice none 0 0) 24 := TI.mk (by kernel_rfl) rfl
theorem ti23 : TI Tryz.prog 23 [(.slice none 0 0)] (.slice none 0 0) 24 := TI.mk (by kernel_rfl) rfl
theorem ti24 : TI Tryz.prog 24 [(.slice none 0 0)] (.slice none 0 0) 24 := TI.mk (by kernel_rfl) rfl
theorem ti25 : TI Tryz.prog 25 [(.slice none 0 0)] (.slice none 0 0) 24 := TI.mk (by kernel_rfl) rfl
theorem ti27 : TI Tryz.prog 27 [(.slice none 0 0), (.slice none 0 0), (.slice none 0 0), (.slice none 0 0)] (.agg [(.slice none 0 0), (.slice none 0 0), (.slice none 0 0), (.slice none 0 0)].toArray) 96 := TI.mk (by kernel_rfl) rfl
theorem ti28 : TI Tryz.prog 28 [(.slice none 0 0)] (.slice none 0 0) 24 := TI.mk (by kernel_rfl) rfl
theorem ti30 : TI Tryz.prog 30 [(.slice none 0 0), (.slice none 0 0), (.slice none 0 0), (.slice none 0 0), (.slice none 0 0)] (.agg [(.slice none 0 0), (.slice none 0 0), (.slice none 0 0), (.slice none 0 0), (.slice none 0 0)].toArray) 120 := TI.mk (by kernel_rfl) rfl
theorem ti31 : TI Tryz.prog 31 [(.slice none 0 0)] (.slice none 0 0) 24 := TI.mk (by kernel_rfl) rfl
theorem ti33 : TI Tryz.prog 33 [(.int .i64 0), (.slice none 0 0), (.slice none 0 0), (.slice none 0 0), (.slice none 0 0), (.slice none 0 0), (.slice none 0 0)] (.agg [(.int .i64 0), (.slice none 0 0), (.slice none 0 0), (.slice none 0 0), (.slice none 0 0), (.slice none 0 0), (.slice none 0 0)].toArray) 152 := TI.mk (by kernel_rfl) rfl
theorem ti43 : TI Tryz.prog 43 [(.int .i64 0), (.int .i64 0), (.slice none 0 0), (.slice none 0 0), (.slice none 0 0)] (.agg [(.int .i64 0), (.int .i64 0), (.slice none 0 0), (.slice none 0 0), (.slice none 0 0)].toArray) 88 := TI.mk (by kernel_rfl) rfl
theorem ti45 : TI Tryz.prog 45 [(.int .i64 0), (.int .i64 0), (.int .i64 0), (.int .i64 0), (.slice none 0 0), (.slice none 0 0), (.slice none 0 0)] (.agg [(.int .i64 0), (.int .i64 0), (.int .i64 0), (.int .i64 0), (.slice none 0 0), (.slice none 0 0), (.slice none 0 0)].toArray) 104 := TI.mk (by kernel_rfl) rfl
theorem ti47 : TI Tryz.prog 47 [(.int .i64 0), (.int .i64 0), (.int .i64 0), (.int .i64 0), (.int .i64 0), (.int .i64 0), (.bool false), (.int .i64 0), (.int .i64 0), (.int .i64 0), (.int .i64 0), (.slice none 0 0), (.int .i64 0), (.int .i64 0), (.slice none 0 0), (.slice none 0 0), (.int .i64 0), (.int .i64 0), (.int .i64 0), (.int .i64 0), (.int .i64 0), (.slice none 0 0), (.slice none 0 0), (.slice none 0 0)] (.agg [(.int .i64 0), (.int .i64 0), (.int .i64 0), (.int .i64 0), (.int .i64 0), (.int .i64 0), (.bool false), (.int .i64 0), (.int .i64 0), (.int .i64 0), (.int .i64 0), (.slice none 0 0), (.int .i64 0), (.int .i64 0), (.slice none 0 0), (.slice none 0 0), (.int .i64 0), (.int .i64 0), (.int .i64 0), (.int .i64 0), (.int .i64 0), (.slice none 0 0), (.slice none 0 0), (.slice none 0 0)].toArray) 288 := TI.mk (by kernel_rfl) rfl
theorem ti67 : TI Tryz.prog 67 [(.int .i64 0), (.int .i64 0), (.int .i64 0), (.slice none 0 0), (.int .i64 0), (.bool false), (.bool false)] (.agg [(.int .i64 0), (.int .i64 0), (.int .i64 0), (.slice none 0 0), (.int .i64 0), (.bool false), (.bool false)].toArray) 64 := TI.mk (by kernel_rfl) rfl
theorem ti78 : TI Tryz.prog 78 [(.int .i64 0)] (.int .i64 0) 8 := TI.mk (by kernel_rfl) rfl
theorem ti80 : TI Tryz.prog 80 [(.int .i64 0), (.slice none 0 0), (.int .i64 0)] (.agg [(.int .i64 0), (.slice none 0 0), (.int .i64 0)].toArray) 40 := TI.mk (by kernel_rfl) rfl
theorem ti85 : TI Tryz.prog 85 [(.slice none 0 0), (.slice none 0 0)] (.agg [(.slice none 0 0), (.slice none 0 0)].toArray) 48 := TI.mk (by kernel_rfl) rfl
theorem ti87 : TI Tryz.prog 87 [(.int .i64 0), (.int .i64 0), (.int .i64 0), (.slice none 0 0), (.int .i64 0)] (.agg [(.int .i64 0), (.int .i64 0), (.int .i64 0), (.slice none 0 0), (.int .i64 0)].toArray) 56 := TI.mk (by kernel_rfl) rfl
theorem ti145 : TI Tryz.prog 145 [(.slice none 0 0), (.bool false)] (.agg [(.slice none 0 0), (.bool false)].toArray) 32 := TI.mk (by kernel_rfl) rfl
theorem pl27 : Places Tryz.prog 27 [(0, 1), (1, 1), (2, 1), (3, 1)] := Places.mk' Tryz.underlying27 (by kernel_rfl)
theorem pl30 : Places Tryz.prog 30 [(0, 4), (4, 1)] := Places.mk' Tryz.underlying30 (by kernel_rfl)
theorem pl33 : Places Tryz.prog 33 [(0, 1), (1, 5), (6, 1)] := Places.mk' Tryz.underlying33 (by kernel_rfl)
theorem pl43 : Places Tryz.prog 43 [(0, 1), (1, 1), (2, 1), (3, 1), (4, 1)] := Places.mk' Tryz.underlying43 (by kernel_rfl)
theorem pl45 : Places Tryz.prog 45 [(0, 1), (1, 1), (2, 5)] := Places.mk' Tryz.underlying45 (by kernel_rfl)
theorem pl47 : Places Tryz.prog 47 [(0, 1), (1, 1), (2, 1), (3, 1), (4, 1), (5, 1), (6, 1), (7, 1), (8, 1), (9, 1), (10, 1), (11, 1), (12, 1), (13, 1), (14, 1), (15, 1), (16, 1), (17, 7)] := Places.mk' Tryz.underlying47 (by kernel_rfl)
theorem pl67 : Places Tryz.prog 67 [(0, 1), (1, 1), (2, 1), (3, 1), (4, 1), (5, 1), (6, 1)] := Places.mk' Tryz.underlying67 (by kernel_rfl)
theorem pl80 : Places Tryz.prog 80 [(0, 1), (1, 1), (2, 1)] := Places.mk' Tryz.underlying80 (by kernel_rfl)
theorem pl85 : Places Tryz.prog 85 [(0, 1), (1, 1)] := Places.mk' Tryz.underlying85 (by kernel_rfl)
theorem pl87 : Places Tryz.prog 87 [(0, 1), (1, 1), (2, 3)] := Places.mk' Tryz.underlying87 (by kernel_rfl)
theorem pl145 : Places Tryz.prog 145 [(0, 1), (1, 1)] := Places.mk' Tryz.underlying145 (by kernel_rfl)
abbrev E43 (x : api_Cmd) (a b c : Value) : List Value := [iV x.Kind, iV x.Who, a, b, c]
abbrev E45 (x : api_Entry) (a b c : Value) : List Value := [iV x.Sess, iV x.Seq, iV x.Cmd.Kind, iV x.Cmd.Who, a, b, c]
abbrev E47 (x : api_Msg) (a b c d e f : Value) : List Value := [iV x.Kind, iV x.From, iV x.To, iV x.View, iV x.Inst, iV x.Len, .bool x.Has, iV x.Members, iV x.Source, iV x.At, iV x.Total, a, iV x.Hop, iV x.Seq, b, c, iV x.Index, iV x.Entry.Sess, iV x.Entry.Seq, iV x.Entry.Cmd.Kind, iV x.Entry.Cmd.Who, d, e, f]
abbrev E67 (x : xfer_Fetch) (a : Value) : List Value := [iV x.v, iV x.me, iV x.source, a, iV x.total, .bool x.begun, .bool x.done]
abbrev E80 (x : api_Result) (a : Value) : List Value := [iV x.Err, a, iV x.N]
abbrev E87 (x : api_Last) (a : Value) : List Value := [iV x.Sess, iV x.Seq, iV x.Result.Err, a, iV x.Result.N]
abbrev Q0 : List Value := [iV 0, iV 0, iV 0, iV 0, iV 0, iV 0, .bool false, iV 0, iV 0, iV 0, iV 0, nS, iV 0, iV 0, nS, nS, iV 0, iV 0, iV 0, iV 0, iV 0, nS, nS, nS]
abbrev Q1 : List Value := [iV 4, iV 1, iV 2, iV 8, iV 0, iV 0, .bool false, iV 0, iV 0, iV 0, iV 0, nS, iV 0, iV 0, nS, nS, iV 0, iV 0, iV 0, iV 0, iV 0, nS, nS, nS]
abbrev U3 := Tryz.underlying3
abbrev U4 := Tryz.underlying4
abbrev U5 := Tryz.underlying5
abbrev U9 := Tryz.underlying9
abbrev U22 := Tryz.underlying22
abbrev U23 := Tryz.underlying23
abbrev U24 := Tryz.underlying24
abbrev U25 := Tryz.underlying25
abbrev U27 := Tryz.underlying27
abbrev U28 := Tryz.underlying28
abbrev U30 := Tryz.underlying30
abbrev U31 := Tryz.underlying31
abbrev U33 := Tryz.underlying33
abbrev U36 := Tryz.underlying36
abbrev U43 := Tryz.underlying43
abbrev U45 := Tryz.underlying45
abbrev U47 := Tryz.underlying47
abbrev U53 := Tryz.underlying53
abbrev U57 := Tryz.underlying57
abbrev U67 := Tryz.underlying67
abbrev U75 := Tryz.underlying75
abbrev U78 := Tryz.underlying78
abbrev U80 := Tryz.underlying80
abbrev U85 := Tryz.underlying85
abbrev U87 := Tryz.underlying87
abbrev U88 := Tryz.underlying88
abbrev U98 := Tryz.underlying98
abbrev U110 := Tryz.underlying110
abbrev U122 := Tryz.underlying122
abbrev U145 := Tryz.underlying145
end Go.Proofs
