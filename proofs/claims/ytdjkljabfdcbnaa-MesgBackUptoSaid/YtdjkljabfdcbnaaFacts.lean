/- Facts of the program's types. -/
import Derived.Test.YtdjkljabfdcbnaaProg
import Derived.KernelRfl
import Derived.Test.YtdjkljabfdcbnaaKinds
namespace Go.Proofs
open Go.Gp
theorem ti3 : TI Try.prog 3 [(.int .i64 0)] (.int .i64 0) 8 := TI.mk (by kernel_rfl) rfl
theorem ti4 : TI Try.prog 4 [(.bool false)] (.bool false) 1 := TI.mk (by kernel_rfl) rfl
theorem ti5 : TI Try.prog 5 [(.int .u8 0)] (.int .u8 0) 1 := TI.mk (by kernel_rfl) rfl
theorem ti9 : TI Try.prog 9 [(.string ⟨#[]⟩)] (.string ⟨#[]⟩) 16 := TI.mk (by kernel_rfl) rfl
theorem ti22 : TI Try.prog 22 [(.slice none 0 0)] (.slice none 0 0) 24 := TI.mk (by kernel_rfl) rfl
theorem ti23 : TI Try.prog 23 [(.slice none 0 0)] (.slice none 0 0) 24 := TI.mk (by kernel_rfl) rfl
theorem ti25 : TI Try.prog 25 [(.int .i64 0), (.int .i64 0), (.slice none 0 0), (.slice none 0 0), (.slice none 0 0)] (.agg [(.int .i64 0), (.int .i64 0), (.slice none 0 0), (.slice none 0 0), (.slice none 0 0)].toArray) 88 := TI.mk (by kernel_rfl) rfl
theorem ti27 : TI Try.prog 27 [(.int .i64 0), (.int .i64 0), (.int .i64 0), (.int .i64 0), (.slice none 0 0), (.slice none 0 0), (.slice none 0 0)] (.agg [(.int .i64 0), (.int .i64 0), (.int .i64 0), (.int .i64 0), (.slice none 0 0), (.slice none 0 0), (.slice none 0 0)].toArray) 104 := TI.mk (by kernel_rfl) rfl
theorem ti29 : TI Try.prog 29 [(.int .i64 0), (.int .i64 0), (.int .i64 0), (.int .i64 0), (.int .i64 0), (.int .i64 0), (.bool false), (.int .i64 0), (.int .i64 0), (.int .i64 0), (.int .i64 0), (.slice none 0 0), (.int .i64 0), (.int .i64 0), (.slice none 0 0), (.slice none 0 0), (.int .i64 0), (.int .i64 0), (.int .i64 0), (.int .i64 0), (.int .i64 0), (.slice none 0 0), (.slice none 0 0), (.slice none 0 0)] (.agg [(.int .i64 0), (.int .i64 0), (.int .i64 0), (.int .i64 0), (.int .i64 0), (.int .i64 0), (.bool false), (.int .i64 0), (.int .i64 0), (.int .i64 0), (.int .i64 0), (.slice none 0 0), (.int .i64 0), (.int .i64 0), (.slice none 0 0), (.slice none 0 0), (.int .i64 0), (.int .i64 0), (.int .i64 0), (.int .i64 0), (.int .i64 0), (.slice none 0 0), (.slice none 0 0), (.slice none 0 0)].toArray) 288 := TI.mk (by kernel_rfl) rfl
theorem ti30 : TI Try.prog 30 [(.int .i64 0), (.int .i64 0), (.int .i64 0), (.int .i64 0), (.int .i64 0), (.int .i64 0), (.bool false), (.int .i64 0), (.int .i64 0), (.int .i64 0), (.int .i64 0), (.slice none 0 0), (.int .i64 0), (.int .i64 0), (.slice none 0 0), (.slice none 0 0), (.int .i64 0), (.int .i64 0), (.int .i64 0), (.int .i64 0), (.int .i64 0), (.slice none 0 0), (.slice none 0 0), (.slice none 0 0), (.bool false)] (.agg [(.int .i64 0), (.int .i64 0), (.int .i64 0), (.int .i64 0), (.int .i64 0), (.int .i64 0), (.bool false), (.int .i64 0), (.int .i64 0), (.int .i64 0), (.int .i64 0), (.slice none 0 0), (.int .i64 0), (.int .i64 0), (.slice none 0 0), (.slice none 0 0), (.int .i64 0), (.int .i64 0), (.int .i64 0), (.int .i64 0), (.int .i64 0), (.slice none 0 0), (.slice none 0 0), (.slice none 0 0), (.bool false)].toArray) 296 := TI.mk (by kernel_rfl) rfl
theorem ti56 : TI Try.prog 56 [(.slice none 0 0), (.bool false)] (.agg [(.slice none 0 0), (.bool false)].toArray) 32 := TI.mk (by kernel_rfl) rfl
theorem ti78 : TI Try.prog 78 [(.slice none 0 0), (.bool false)] (.agg [(.slice none 0 0), (.bool false)].toArray) 32 := TI.mk (by kernel_rfl) rfl
theorem pl25 : Places Try.prog 25 [(0, 1), (1, 1), (2, 1), (3, 1), (4, 1)] := Places.mk' Try.underlying25 (by kernel_rfl)
theorem pl27 : Places Try.prog 27 [(0, 1), (1, 1), (2, 5)] := Places.mk' Try.underlying27 (by kernel_rfl)
theorem pl29 : Places Try.prog 29 [(0, 1), (1, 1), (2, 1), (3, 1), (4, 1), (5, 1), (6, 1), (7, 1), (8, 1), (9, 1), (10, 1), (11, 1), (12, 1), (13, 1), (14, 1), (15, 1), (16, 1), (17, 7)] := Places.mk' Try.underlying29 (by kernel_rfl)
theorem pl30 : Places Try.prog 30 [(0, 24), (24, 1)] := Places.mk' Try.underlying30 (by kernel_rfl)
theorem pl56 : Places Try.prog 56 [(0, 1), (1, 1)] := Places.mk' Try.underlying56 (by kernel_rfl)
theorem pl78 : Places Try.prog 78 [(0, 1), (1, 1)] := Places.mk' Try.underlying78 (by kernel_rfl)
abbrev U3 := Try.underlying3
abbrev U4 := Try.underlying4
abbrev U5 := Try.underlying5
abbrev U9 := Try.underlying9
abbrev U22 := Try.underlying22
abbrev U23 := Try.underlying23
abbrev U25 := Try.underlying25
abbrev U27 := Try.underlying27
abbrev U29 := Try.underlying29
abbrev U30 := Try.underlying30
abbrev U31 := Try.underlying31
abbrev U40 := Try.underlying40
abbrev U41 := Try.underlying41
abbrev U45 := Try.underlying45
abbrev U56 := Try.underlying56
abbrev U74 := Try.underlying74
abbrev U75 := Try.underlying75
abbrev U78 := Try.underlying78
abbrev U81 := Try.underlying81
end Go.Proofs
