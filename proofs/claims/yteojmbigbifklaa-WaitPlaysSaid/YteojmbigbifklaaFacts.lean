/- Facts of the program's types. -/
import Derived.Test.YteojmbigbifklaaProg
import Derived.KernelRfl
import Derived.Test.YteojmbigbifklaaKinds
namespace Go.Proofs
open Go.Gp
theorem ti3 : TI Try.prog 3 [(.int .i64 0)] (.int .i64 0) 8 := TI.mk (by kernel_rfl) rfl
theorem ti4 : TI Try.prog 4 [(.bool false)] (.bool false) 1 := TI.mk (by kernel_rfl) rfl
theorem ti5 : TI Try.prog 5 [(.int .u8 0)] (.int .u8 0) 1 := TI.mk (by kernel_rfl) rfl
theorem ti9 : TI Try.prog 9 [(.string ⟨#[]⟩)] (.string ⟨#[]⟩) 16 := TI.mk (by kernel_rfl) rfl
theorem ti22 : TI Try.prog 22 [(.slice none 0 0)] (.slice none 0 0) 24 := TI.mk (by kernel_rfl) rfl
theorem ti23 : TI Try.prog 23 [(.int .i64 0)] (.int .i64 0) 8 := TI.mk (by kernel_rfl) rfl
theorem ti24 : TI Try.prog 24 [(.slice none 0 0), (.bool false), (.int .i64 0), (.slice none 0 0), (.int .i64 0), (.int .i64 0)] (.agg [(.slice none 0 0), (.bool false), (.int .i64 0), (.slice none 0 0), (.int .i64 0), (.int .i64 0)].toArray) 80 := TI.mk (by kernel_rfl) rfl
theorem ti26 : TI Try.prog 26 [(.slice none 0 0)] (.slice none 0 0) 24 := TI.mk (by kernel_rfl) rfl
theorem ti28 : TI Try.prog 28 [(.int .i64 0), (.slice none 0 0), (.int .i64 0)] (.agg [(.int .i64 0), (.slice none 0 0), (.int .i64 0)].toArray) 40 := TI.mk (by kernel_rfl) rfl
theorem ti43 : TI Try.prog 43 [(.int .i64 0), (.int .i64 0), (.slice none 0 0), (.slice none 0 0), (.slice none 0 0)] (.agg [(.int .i64 0), (.int .i64 0), (.slice none 0 0), (.slice none 0 0), (.slice none 0 0)].toArray) 88 := TI.mk (by kernel_rfl) rfl
theorem ti45 : TI Try.prog 45 [(.int .i64 0), (.int .i64 0), (.int .i64 0), (.int .i64 0), (.slice none 0 0), (.slice none 0 0), (.slice none 0 0)] (.agg [(.int .i64 0), (.int .i64 0), (.int .i64 0), (.int .i64 0), (.slice none 0 0), (.slice none 0 0), (.slice none 0 0)].toArray) 104 := TI.mk (by kernel_rfl) rfl
theorem ti51 : TI Try.prog 51 [(.int .i64 0), (.int .i64 0), (.int .i64 0), (.int .i64 0), (.int .i64 0), (.slice none 0 0), (.slice none 0 0), (.slice none 0 0), (.int .i64 0), (.slice none 0 0), (.int .i64 0)] (.agg [(.int .i64 0), (.int .i64 0), (.int .i64 0), (.int .i64 0), (.int .i64 0), (.slice none 0 0), (.slice none 0 0), (.slice none 0 0), (.int .i64 0), (.slice none 0 0), (.int .i64 0)].toArray) 152 := TI.mk (by kernel_rfl) rfl
theorem ti53 : TI Try.prog 53 [(.slice none 0 0)] (.slice none 0 0) 24 := TI.mk (by kernel_rfl) rfl
theorem ti56 : TI Try.prog 56 [(.int .i64 0), (.int .i64 0), (.int .i64 0), (.slice none 0 0), (.int .i64 0)] (.agg [(.int .i64 0), (.int .i64 0), (.int .i64 0), (.slice none 0 0), (.int .i64 0)].toArray) 56 := TI.mk (by kernel_rfl) rfl
theorem ti61 : TI Try.prog 61 [(.slice none 0 0)] (.slice none 0 0) 24 := TI.mk (by kernel_rfl) rfl
theorem ti63 : TI Try.prog 63 [(.slice none 0 0), (.slice none 0 0)] (.agg [(.slice none 0 0), (.slice none 0 0)].toArray) 48 := TI.mk (by kernel_rfl) rfl
theorem ti72 : TI Try.prog 72 [(.slice none 0 0)] (.slice none 0 0) 24 := TI.mk (by kernel_rfl) rfl
theorem ti74 : TI Try.prog 74 [(.slice none 0 0), (.slice none 0 0)] (.agg [(.slice none 0 0), (.slice none 0 0)].toArray) 48 := TI.mk (by kernel_rfl) rfl
theorem ti78 : TI Try.prog 78 [(.int .i64 0), (.int .i64 0), (.int .i64 0), (.int .i64 0), (.slice none 0 0), (.slice none 0 0), (.slice none 0 0), (.bool false)] (.agg [(.int .i64 0), (.int .i64 0), (.int .i64 0), (.int .i64 0), (.slice none 0 0), (.slice none 0 0), (.slice none 0 0), (.bool false)].toArray) 112 := TI.mk (by kernel_rfl) rfl
theorem ti84 : TI Try.prog 84 [(.int .i64 0), (.int .i64 0), (.int .i64 0), (.int .i64 0), (.slice none 0 0), (.slice none 0 0), (.slice none 0 0), (.bool false)] (.agg [(.int .i64 0), (.int .i64 0), (.int .i64 0), (.int .i64 0), (.slice none 0 0), (.slice none 0 0), (.slice none 0 0), (.bool false)].toArray) 112 := TI.mk (by kernel_rfl) rfl
theorem pl24 : Places Try.prog 24 [(0, 1), (1, 1), (2, 1), (3, 1), (4, 1), (5, 1)] := Places.mk' Try.underlying24 (by kernel_rfl)
theorem pl28 : Places Try.prog 28 [(0, 1), (1, 1), (2, 1)] := Places.mk' Try.underlying28 (by kernel_rfl)
theorem pl43 : Places Try.prog 43 [(0, 1), (1, 1), (2, 1), (3, 1), (4, 1)] := Places.mk' Try.underlying43 (by kernel_rfl)
theorem pl45 : Places Try.prog 45 [(0, 1), (1, 1), (2, 5)] := Places.mk' Try.underlying45 (by kernel_rfl)
theorem pl51 : Places Try.prog 51 [(0, 1), (1, 7), (8, 3)] := Places.mk' Try.underlying51 (by kernel_rfl)
theorem pl56 : Places Try.prog 56 [(0, 1), (1, 1), (2, 3)] := Places.mk' Try.underlying56 (by kernel_rfl)
theorem pl63 : Places Try.prog 63 [(0, 1), (1, 1)] := Places.mk' Try.underlying63 (by kernel_rfl)
theorem pl74 : Places Try.prog 74 [(0, 1), (1, 1)] := Places.mk' Try.underlying74 (by kernel_rfl)
theorem pl78 : Places Try.prog 78 [(0, 7), (7, 1)] := Places.mk' Try.underlying78 (by kernel_rfl)
theorem pl84 : Places Try.prog 84 [(0, 7), (7, 1)] := Places.mk' Try.underlying84 (by kernel_rfl)
end Go.Proofs
