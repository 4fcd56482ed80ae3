/- Facts of the program's types. -/
import Derived.Test.YtpfpojfcbdepnaaProg
import Derived.KernelRfl
import Derived.Test.YtpfpojfcbdepnaaKinds
namespace Go.Proofs
open Go.Gp
theorem ti3 : TI Try.prog 3 [(.int .i64 0)] (.int .i64 0) 8 := TI.mk (by kernel_rfl) rfl
theorem ti4 : TI Try.prog 4 [(.bool false)] (.bool false) 1 := TI.mk (by kernel_rfl) rfl
theorem ti5 : TI Try.prog 5 [(.int .u8 0)] (.int .u8 0) 1 := TI.mk (by kernel_rfl) rfl
theorem ti9 : TI Try.prog 9 [(.string ⟨#[]⟩)] (.string ⟨#[]⟩) 16 := TI.mk (by kernel_rfl) rfl
theorem ti24 : TI Try.prog 24 [(.slice none 0 0)] (.slice none 0 0) 24 := TI.mk (by kernel_rfl) rfl
theorem ti26 : TI Try.prog 26 [(.int .i64 0), (.int .i64 0), (.slice none 0 0), (.slice none 0 0), (.slice none 0 0)] (.agg [(.int .i64 0), (.int .i64 0), (.slice none 0 0), (.slice none 0 0), (.slice none 0 0)].toArray) 88 := TI.mk (by kernel_rfl) rfl
theorem ti28 : TI Try.prog 28 [(.int .i64 0), (.int .i64 0), (.int .i64 0), (.int .i64 0), (.slice none 0 0), (.slice none 0 0), (.slice none 0 0)] (.agg [(.int .i64 0), (.int .i64 0), (.int .i64 0), (.int .i64 0), (.slice none 0 0), (.slice none 0 0), (.slice none 0 0)].toArray) 104 := TI.mk (by kernel_rfl) rfl
theorem ti35 : TI Try.prog 35 [(.int .i64 0), (.slice none 0 0), (.int .i64 0)] (.agg [(.int .i64 0), (.slice none 0 0), (.int .i64 0)].toArray) 40 := TI.mk (by kernel_rfl) rfl
theorem ti37 : TI Try.prog 37 [(.int .i64 0), (.int .i64 0), (.int .i64 0), (.int .i64 0), (.int .i64 0), (.slice none 0 0), (.slice none 0 0), (.slice none 0 0), (.int .i64 0), (.slice none 0 0), (.int .i64 0)] (.agg [(.int .i64 0), (.int .i64 0), (.int .i64 0), (.int .i64 0), (.int .i64 0), (.slice none 0 0), (.slice none 0 0), (.slice none 0 0), (.int .i64 0), (.slice none 0 0), (.int .i64 0)].toArray) 152 := TI.mk (by kernel_rfl) rfl
theorem ti39 : TI Try.prog 39 [(.slice none 0 0)] (.slice none 0 0) 24 := TI.mk (by kernel_rfl) rfl
theorem ti42 : TI Try.prog 42 [(.int .i64 0), (.int .i64 0), (.int .i64 0), (.slice none 0 0), (.int .i64 0)] (.agg [(.int .i64 0), (.int .i64 0), (.int .i64 0), (.slice none 0 0), (.int .i64 0)].toArray) 56 := TI.mk (by kernel_rfl) rfl
theorem ti48 : TI Try.prog 48 [(.slice none 0 0)] (.slice none 0 0) 24 := TI.mk (by kernel_rfl) rfl
theorem ti50 : TI Try.prog 50 [(.slice none 0 0), (.slice none 0 0)] (.agg [(.slice none 0 0), (.slice none 0 0)].toArray) 48 := TI.mk (by kernel_rfl) rfl
theorem ti54 : TI Try.prog 54 [(.int .i64 0), (.int .i64 0), (.int .i64 0), (.int .i64 0), (.slice none 0 0), (.slice none 0 0), (.slice none 0 0), (.bool false)] (.agg [(.int .i64 0), (.int .i64 0), (.int .i64 0), (.int .i64 0), (.slice none 0 0), (.slice none 0 0), (.slice none 0 0), (.bool false)].toArray) 112 := TI.mk (by kernel_rfl) rfl
theorem pl26 : Places Try.prog 26 [(0, 1), (1, 1), (2, 1), (3, 1), (4, 1)] := Places.mk' Try.underlying26 (by kernel_rfl)
theorem pl28 : Places Try.prog 28 [(0, 1), (1, 1), (2, 5)] := Places.mk' Try.underlying28 (by kernel_rfl)
theorem pl35 : Places Try.prog 35 [(0, 1), (1, 1), (2, 1)] := Places.mk' Try.underlying35 (by kernel_rfl)
theorem pl37 : Places Try.prog 37 [(0, 1), (1, 7), (8, 3)] := Places.mk' Try.underlying37 (by kernel_rfl)
theorem pl42 : Places Try.prog 42 [(0, 1), (1, 1), (2, 3)] := Places.mk' Try.underlying42 (by kernel_rfl)
theorem pl50 : Places Try.prog 50 [(0, 1), (1, 1)] := Places.mk' Try.underlying50 (by kernel_rfl)
theorem pl54 : Places Try.prog 54 [(0, 7), (7, 1)] := Places.mk' Try.underlying54 (by kernel_rfl)
abbrev E26 (x : api_Cmd) (a b c : Value) : List Value := [iV x.Kind, iV x.Who, a, b, c]
abbrev E28 (x : api_Entry) (a b c : Value) : List Value := [iV x.Sess, iV x.Seq, iV x.Cmd.Kind, iV x.Cmd.Who, a, b, c]
abbrev E35 (x : api_Result) (a : Value) : List Value := [iV x.Err, a, iV x.N]
abbrev E37 (x : api_Done) (a b c d : Value) : List Value := [iV x.Index, iV x.Entry.Sess, iV x.Entry.Seq, iV x.Entry.Cmd.Kind, iV x.Entry.Cmd.Who, a, b, c, iV x.Result.Err, d, iV x.Result.N]
abbrev E54 (x : wait_call) (a b c : Value) : List Value := [iV x.e.Sess, iV x.e.Seq, iV x.e.Cmd.Kind, iV x.e.Cmd.Who, a, b, c, .bool x.sent]
abbrev U3 := Try.underlying3
abbrev U4 := Try.underlying4
abbrev U5 := Try.underlying5
abbrev U9 := Try.underlying9
abbrev U22 := Try.underlying22
abbrev U24 := Try.underlying24
abbrev U26 := Try.underlying26
abbrev U28 := Try.underlying28
abbrev U31 := Try.underlying31
abbrev U35 := Try.underlying35
abbrev U37 := Try.underlying37
abbrev U39 := Try.underlying39
abbrev U42 := Try.underlying42
abbrev U48 := Try.underlying48
abbrev U50 := Try.underlying50
abbrev U54 := Try.underlying54
abbrev U62 := Try.underlying62
abbrev U64 := Try.underlying64
end Go.Proofs
