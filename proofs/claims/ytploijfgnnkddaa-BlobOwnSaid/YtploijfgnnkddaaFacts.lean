/- Facts of the program's types. -/
import Derived.Test.YtploijfgnnkddaaProg
import Derived.KernelRfl
import Derived.Test.YtploijfgnnkddaaKinds
namespace Go.Proofs
open Go.Gp
theorem ti3 : TI Try.prog 3 [(.int .i64 0)] (.int .i64 0) 8 := TI.mk (by kernel_rfl) rfl
theorem ti4 : TI Try.prog 4 [(.bool false)] (.bool false) 1 := TI.mk (by kernel_rfl) rfl
theorem ti5 : TI Try.prog 5 [(.int .u8 0)] (.int .u8 0) 1 := TI.mk (by kernel_rfl) rfl
theorem ti9 : TI Try.prog 9 [(.string ⟨#[]⟩)] (.string ⟨#[]⟩) 16 := TI.mk (by kernel_rfl) rfl
theorem ti22 : TI Try.prog 22 [(.slice none 0 0)] (.slice none 0 0) 24 := TI.mk (by kernel_rfl) rfl
theorem ti24 : TI Try.prog 24 [(.int .i64 0), (.int .i64 0), (.slice none 0 0), (.slice none 0 0), (.slice none 0 0)] (.agg [(.int .i64 0), (.int .i64 0), (.slice none 0 0), (.slice none 0 0), (.slice none 0 0)].toArray) 88 := TI.mk (by kernel_rfl) rfl
theorem ti26 : TI Try.prog 26 [(.int .i64 0), (.int .i64 0), (.int .i64 0), (.int .i64 0), (.slice none 0 0), (.slice none 0 0), (.slice none 0 0)] (.agg [(.int .i64 0), (.int .i64 0), (.int .i64 0), (.int .i64 0), (.slice none 0 0), (.slice none 0 0), (.slice none 0 0)].toArray) 104 := TI.mk (by kernel_rfl) rfl
theorem ti27 : TI Try.prog 27 [(.slice none 0 0)] (.slice none 0 0) 24 := TI.mk (by kernel_rfl) rfl
theorem ti28 : TI Try.prog 28 [(.slice none 0 0)] (.slice none 0 0) 24 := TI.mk (by kernel_rfl) rfl
theorem ti29 : TI Try.prog 29 [(.slice none 0 0)] (.slice none 0 0) 24 := TI.mk (by kernel_rfl) rfl
theorem ti30 : TI Try.prog 30 [(.slice none 0 0)] (.slice none 0 0) 24 := TI.mk (by kernel_rfl) rfl
theorem ti32 : TI Try.prog 32 [(.slice none 0 0), (.slice none 0 0), (.slice none 0 0), (.slice none 0 0)] (.agg [(.slice none 0 0), (.slice none 0 0), (.slice none 0 0), (.slice none 0 0)].toArray) 96 := TI.mk (by kernel_rfl) rfl
theorem ti33 : TI Try.prog 33 [(.slice none 0 0)] (.slice none 0 0) 24 := TI.mk (by kernel_rfl) rfl
theorem ti35 : TI Try.prog 35 [(.slice none 0 0), (.slice none 0 0), (.slice none 0 0), (.slice none 0 0), (.slice none 0 0)] (.agg [(.slice none 0 0), (.slice none 0 0), (.slice none 0 0), (.slice none 0 0), (.slice none 0 0)].toArray) 120 := TI.mk (by kernel_rfl) rfl
theorem ti37 : TI Try.prog 37 [(.int .i64 0), (.slice none 0 0), (.slice none 0 0), (.slice none 0 0), (.slice none 0 0), (.slice none 0 0), (.slice none 0 0)] (.agg [(.int .i64 0), (.slice none 0 0), (.slice none 0 0), (.slice none 0 0), (.slice none 0 0), (.slice none 0 0), (.slice none 0 0)].toArray) 152 := TI.mk (by kernel_rfl) rfl
theorem ti88 : TI Try.prog 88 [(.slice none 0 0), (.slice none 0 0)] (.agg [(.slice none 0 0), (.slice none 0 0)].toArray) 48 := TI.mk (by kernel_rfl) rfl
theorem ti89 : TI Try.prog 89 [(.int .i64 0)] (.int .i64 0) 8 := TI.mk (by kernel_rfl) rfl
theorem ti91 : TI Try.prog 91 [(.int .i64 0), (.slice none 0 0), (.int .i64 0)] (.agg [(.int .i64 0), (.slice none 0 0), (.int .i64 0)].toArray) 40 := TI.mk (by kernel_rfl) rfl
theorem ti93 : TI Try.prog 93 [(.int .i64 0), (.int .i64 0), (.int .i64 0), (.slice none 0 0), (.int .i64 0)] (.agg [(.int .i64 0), (.int .i64 0), (.int .i64 0), (.slice none 0 0), (.int .i64 0)].toArray) 56 := TI.mk (by kernel_rfl) rfl
theorem ti112 : TI Try.prog 112 [(.slice none 0 0), (.bool false)] (.agg [(.slice none 0 0), (.bool false)].toArray) 32 := TI.mk (by kernel_rfl) rfl
theorem pl24 : Places Try.prog 24 [(0, 1), (1, 1), (2, 1), (3, 1), (4, 1)] := Places.mk' Try.underlying24 (by kernel_rfl)
theorem pl26 : Places Try.prog 26 [(0, 1), (1, 1), (2, 5)] := Places.mk' Try.underlying26 (by kernel_rfl)
theorem pl32 : Places Try.prog 32 [(0, 1), (1, 1), (2, 1), (3, 1)] := Places.mk' Try.underlying32 (by kernel_rfl)
theorem pl35 : Places Try.prog 35 [(0, 4), (4, 1)] := Places.mk' Try.underlying35 (by kernel_rfl)
theorem pl37 : Places Try.prog 37 [(0, 1), (1, 5), (6, 1)] := Places.mk' Try.underlying37 (by kernel_rfl)
theorem pl88 : Places Try.prog 88 [(0, 1), (1, 1)] := Places.mk' Try.underlying88 (by kernel_rfl)
theorem pl91 : Places Try.prog 91 [(0, 1), (1, 1), (2, 1)] := Places.mk' Try.underlying91 (by kernel_rfl)
theorem pl93 : Places Try.prog 93 [(0, 1), (1, 1), (2, 3)] := Places.mk' Try.underlying93 (by kernel_rfl)
theorem pl112 : Places Try.prog 112 [(0, 1), (1, 1)] := Places.mk' Try.underlying112 (by kernel_rfl)
abbrev E24 (x : api_Cmd) (a b c : Value) : List Value := [iV x.Kind, iV x.Who, a, b, c]
abbrev E26 (x : api_Entry) (a b c : Value) : List Value := [iV x.Sess, iV x.Seq, iV x.Cmd.Kind, iV x.Cmd.Who, a, b, c]
abbrev E56 (x : api_Msg) (a b c d e f : Value) : List Value := [iV x.Kind, iV x.From, iV x.To, iV x.View, iV x.Inst, iV x.Len, .bool x.Has, iV x.Members, iV x.Source, iV x.At, iV x.Total, a, iV x.Hop, iV x.Seq, b, c, iV x.Index, iV x.Entry.Sess, iV x.Entry.Seq, iV x.Entry.Cmd.Kind, iV x.Entry.Cmd.Who, d, e, f]
abbrev E91 (x : api_Result) (a : Value) : List Value := [iV x.Err, a, iV x.N]
abbrev E93 (x : api_Last) (a : Value) : List Value := [iV x.Sess, iV x.Seq, iV x.Result.Err, a, iV x.Result.N]
abbrev Q0 : List Value := [iV 0, iV 0, iV 0, iV 0, iV 0, iV 0, .bool false, iV 0, iV 0, iV 0, iV 0, nS, iV 0, iV 0, nS, nS, iV 0, iV 0, iV 0, iV 0, iV 0, nS, nS, nS]
abbrev Q1 : List Value := [iV 4, iV 1, iV 2, iV 8, iV 0, iV 0, .bool false, iV 0, iV 0, iV 0, iV 0, nS, iV 0, iV 0, nS, nS, iV 0, iV 0, iV 0, iV 0, iV 0, nS, nS, nS]
abbrev U3 := Try.underlying3
abbrev U4 := Try.underlying4
abbrev U5 := Try.underlying5
abbrev U9 := Try.underlying9
abbrev U22 := Try.underlying22
abbrev U24 := Try.underlying24
abbrev U26 := Try.underlying26
abbrev U27 := Try.underlying27
abbrev U28 := Try.underlying28
abbrev U29 := Try.underlying29
abbrev U30 := Try.underlying30
abbrev U32 := Try.underlying32
abbrev U33 := Try.underlying33
abbrev U35 := Try.underlying35
abbrev U37 := Try.underlying37
abbrev U39 := Try.underlying39
abbrev U40 := Try.underlying40
abbrev U53 := Try.underlying53
abbrev U56 := Try.underlying56
abbrev U65 := Try.underlying65
abbrev U71 := Try.underlying71
abbrev U80 := Try.underlying80
abbrev U88 := Try.underlying88
abbrev U89 := Try.underlying89
abbrev U91 := Try.underlying91
abbrev U93 := Try.underlying93
abbrev U101 := Try.underlying101
abbrev U109 := Try.underlying109
abbrev U112 := Try.underlying112
abbrev U122 := Try.underlying122
end Go.Proofs
