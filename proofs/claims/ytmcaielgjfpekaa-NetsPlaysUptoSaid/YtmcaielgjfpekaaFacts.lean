/- Facts of the program's types. -/
import Derived.Test.YtmcaielgjfpekaaProg
import Derived.KernelRfl
import Derived.Test.YtmcaielgjfpekaaKinds
namespace Go.Proofs
open Go.Gp
theorem ti3 : TI Try.prog 3 [(.int .i64 0)] (.int .i64 0) 8 := TI.mk (by kernel_rfl) rfl
theorem ti4 : TI Try.prog 4 [(.bool false)] (.bool false) 1 := TI.mk (by kernel_rfl) rfl
theorem ti5 : TI Try.prog 5 [(.int .u8 0)] (.int .u8 0) 1 := TI.mk (by kernel_rfl) rfl
theorem ti9 : TI Try.prog 9 [(.string ⟨#[]⟩)] (.string ⟨#[]⟩) 16 := TI.mk (by kernel_rfl) rfl
theorem ti22 : TI Try.prog 22 [(.slice none 0 0)] (.slice none 0 0) 24 := TI.mk (by kernel_rfl) rfl
theorem ti26 : TI Try.prog 26 [(.slice none 0 0)] (.slice none 0 0) 24 := TI.mk (by kernel_rfl) rfl
theorem ti28 : TI Try.prog 28 [(.int .i64 0), (.int .i64 0), (.slice none 0 0), (.slice none 0 0), (.slice none 0 0)] (.agg [(.int .i64 0), (.int .i64 0), (.slice none 0 0), (.slice none 0 0), (.slice none 0 0)].toArray) 88 := TI.mk (by kernel_rfl) rfl
theorem ti30 : TI Try.prog 30 [(.int .i64 0), (.int .i64 0), (.int .i64 0), (.int .i64 0), (.slice none 0 0), (.slice none 0 0), (.slice none 0 0)] (.agg [(.int .i64 0), (.int .i64 0), (.int .i64 0), (.int .i64 0), (.slice none 0 0), (.slice none 0 0), (.slice none 0 0)].toArray) 104 := TI.mk (by kernel_rfl) rfl
theorem ti32 : TI Try.prog 32 [(.int .i64 0), (.int .i64 0), (.int .i64 0), (.int .i64 0), (.int .i64 0), (.int .i64 0), (.bool false), (.int .i64 0), (.int .i64 0), (.int .i64 0), (.int .i64 0), (.slice none 0 0), (.int .i64 0), (.int .i64 0), (.slice none 0 0), (.slice none 0 0), (.int .i64 0), (.int .i64 0), (.int .i64 0), (.int .i64 0), (.int .i64 0), (.slice none 0 0), (.slice none 0 0), (.slice none 0 0)] (.agg [(.int .i64 0), (.int .i64 0), (.int .i64 0), (.int .i64 0), (.int .i64 0), (.int .i64 0), (.bool false), (.int .i64 0), (.int .i64 0), (.int .i64 0), (.int .i64 0), (.slice none 0 0), (.int .i64 0), (.int .i64 0), (.slice none 0 0), (.slice none 0 0), (.int .i64 0), (.int .i64 0), (.int .i64 0), (.int .i64 0), (.int .i64 0), (.slice none 0 0), (.slice none 0 0), (.slice none 0 0)].toArray) 288 := TI.mk (by kernel_rfl) rfl
theorem ti44 : TI Try.prog 44 [(.int .i64 0), (.int .i64 0), (.slice none 0 0)] (.agg [(.int .i64 0), (.int .i64 0), (.slice none 0 0)].toArray) 40 := TI.mk (by kernel_rfl) rfl
theorem ti53 : TI Try.prog 53 [(.int .i64 0), (.int .i64 0), (.slice none 0 0), (.bool false)] (.agg [(.int .i64 0), (.int .i64 0), (.slice none 0 0), (.bool false)].toArray) 48 := TI.mk (by kernel_rfl) rfl
theorem ti56 : TI Try.prog 56 [(.slice none 0 0)] (.slice none 0 0) 24 := TI.mk (by kernel_rfl) rfl
theorem ti58 : TI Try.prog 58 [(.int .i64 0), (.int .i64 0), (.slice none 0 0)] (.agg [(.int .i64 0), (.int .i64 0), (.slice none 0 0)].toArray) 40 := TI.mk (by kernel_rfl) rfl
theorem ti60 : TI Try.prog 60 [(.int .i64 0), (.int .i64 0), (.slice none 0 0), (.bool false)] (.agg [(.int .i64 0), (.int .i64 0), (.slice none 0 0), (.bool false)].toArray) 48 := TI.mk (by kernel_rfl) rfl
theorem ti78 : TI Try.prog 78 [(.slice none 0 0), (.bool false)] (.agg [(.slice none 0 0), (.bool false)].toArray) 32 := TI.mk (by kernel_rfl) rfl
theorem ti95 : TI Try.prog 95 [(.slice none 0 0), (.bool false)] (.agg [(.slice none 0 0), (.bool false)].toArray) 32 := TI.mk (by kernel_rfl) rfl
theorem pl28 : Places Try.prog 28 [(0, 1), (1, 1), (2, 1), (3, 1), (4, 1)] := Places.mk' Try.underlying28 (by kernel_rfl)
theorem pl30 : Places Try.prog 30 [(0, 1), (1, 1), (2, 5)] := Places.mk' Try.underlying30 (by kernel_rfl)
theorem pl32 : Places Try.prog 32 [(0, 1), (1, 1), (2, 1), (3, 1), (4, 1), (5, 1), (6, 1), (7, 1), (8, 1), (9, 1), (10, 1), (11, 1), (12, 1), (13, 1), (14, 1), (15, 1), (16, 1), (17, 7)] := Places.mk' Try.underlying32 (by kernel_rfl)
theorem pl44 : Places Try.prog 44 [(0, 1), (1, 1), (2, 1)] := Places.mk' Try.underlying44 (by kernel_rfl)
theorem pl53 : Places Try.prog 53 [(0, 1), (1, 1), (2, 1), (3, 1)] := Places.mk' Try.underlying53 (by kernel_rfl)
theorem pl58 : Places Try.prog 58 [(0, 1), (1, 1), (2, 1)] := Places.mk' Try.underlying58 (by kernel_rfl)
theorem pl60 : Places Try.prog 60 [(0, 3), (3, 1)] := Places.mk' Try.underlying60 (by kernel_rfl)
theorem pl78 : Places Try.prog 78 [(0, 1), (1, 1)] := Places.mk' Try.underlying78 (by kernel_rfl)
theorem pl95 : Places Try.prog 95 [(0, 1), (1, 1)] := Places.mk' Try.underlying95 (by kernel_rfl)
abbrev E28 (x : api_Cmd) (a b c : Value) : List Value := [iV x.Kind, iV x.Who, a, b, c]
abbrev E30 (x : api_Entry) (a b c : Value) : List Value := [iV x.Sess, iV x.Seq, iV x.Cmd.Kind, iV x.Cmd.Who, a, b, c]
abbrev E32 (x : api_Msg) (a b c d e f : Value) : List Value := [iV x.Kind, iV x.From, iV x.To, iV x.View, iV x.Inst, iV x.Len, .bool x.Has, iV x.Members, iV x.Source, iV x.At, iV x.Total, a, iV x.Hop, iV x.Seq, b, c, iV x.Index, iV x.Entry.Sess, iV x.Entry.Seq, iV x.Entry.Cmd.Kind, iV x.Entry.Cmd.Who, d, e, f]
abbrev E53 (x : hocketlaw23_flight) (a : Value) : List Value := [iV x.from_, iV x.to, a, .bool x.turned]
abbrev E58 (x : nets_Net) (a : Value) : List Value := [iV x.n, iV x.mask, a]
abbrev Q0 : List Value := [iV 0, iV 0, iV 0, iV 0, iV 0, iV 0, .bool false, iV 0, iV 0, iV 0, iV 0, nS, iV 0, iV 0, nS, nS, iV 0, iV 0, iV 0, iV 0, iV 0, nS, nS, nS]
abbrev Q1 : List Value := [iV 1, iV 0, iV 1, iV 8, iV 0, iV 0, .bool false, iV 0, iV 0, iV 0, iV 0, nS, iV 0, iV 0, nS, nS, iV 0, iV 0, iV 0, iV 0, iV 0, nS, nS, nS]
abbrev Q2 : List Value := [iV 1, iV 0, iV 3, iV 8, iV 0, iV 0, .bool false, iV 0, iV 0, iV 0, iV 0, nS, iV 0, iV 0, nS, nS, iV 0, iV 0, iV 0, iV 0, iV 0, nS, nS, nS]
abbrev U3 := Try.underlying3
abbrev U4 := Try.underlying4
abbrev U5 := Try.underlying5
abbrev U9 := Try.underlying9
abbrev U22 := Try.underlying22
abbrev U23 := Try.underlying23
abbrev U26 := Try.underlying26
abbrev U28 := Try.underlying28
abbrev U30 := Try.underlying30
abbrev U32 := Try.underlying32
abbrev U44 := Try.underlying44
abbrev U48 := Try.underlying48
abbrev U49 := Try.underlying49
abbrev U50 := Try.underlying50
abbrev U53 := Try.underlying53
abbrev U56 := Try.underlying56
abbrev U58 := Try.underlying58
abbrev U60 := Try.underlying60
abbrev U71 := Try.underlying71
abbrev U78 := Try.underlying78
abbrev U83 := Try.underlying83
abbrev U86 := Try.underlying86
abbrev U93 := Try.underlying93
abbrev U95 := Try.underlying95
end Go.Proofs
