/- Facts of the program's types. -/
import Derived.Test.YtlofhblfdkjloaaProg
import Derived.KernelRfl
import Derived.Test.YtlofhblfdkjloaaKinds
namespace Go.Proofs
open Go.Gp
theorem ti3 : TI Try.prog 3 [(.int .i64 0)] (.int .i64 0) 8 := TI.mk (by kernel_rfl) rfl
theorem ti4 : TI Try.prog 4 [(.bool false)] (.bool false) 1 := TI.mk (by kernel_rfl) rfl
theorem ti5 : TI Try.prog 5 [(.int .u8 0)] (.int .u8 0) 1 := TI.mk (by kernel_rfl) rfl
theorem ti23 : TI Try.prog 23 [(.slice none 0 0)] (.slice none 0 0) 24 := TI.mk (by kernel_rfl) rfl
theorem ti25 : TI Try.prog 25 [(.slice none 0 0), (.slice none 0 0)] (.agg [(.slice none 0 0), (.slice none 0 0)].toArray) 48 := TI.mk (by kernel_rfl) rfl
theorem ti28 : TI Try.prog 28 [(.int .i64 0), (.int .i64 0), (.int .i64 0)] (.agg [(.int .i64 0), (.int .i64 0), (.int .i64 0)].toArray) 24 := TI.mk (by kernel_rfl) rfl
theorem ti58 : TI Try.prog 58 [(.slice none 0 0), (.slice none 0 0), (.int .i64 0), (.bool false)] (.agg [(.slice none 0 0), (.slice none 0 0), (.int .i64 0), (.bool false)].toArray) 64 := TI.mk (by kernel_rfl) rfl
theorem ti67 : TI Try.prog 67 [(.slice none 0 0), (.bool false)] (.agg [(.slice none 0 0), (.bool false)].toArray) 32 := TI.mk (by kernel_rfl) rfl
theorem ti72 : TI Try.prog 72 [(.slice none 0 0), (.bool false)] (.agg [(.slice none 0 0), (.bool false)].toArray) 32 := TI.mk (by kernel_rfl) rfl
theorem pl25 : Places Try.prog 25 [(0, 1), (1, 1)] := Places.mk' Try.underlying25 (by kernel_rfl)
theorem pl28 : Places Try.prog 28 [(0, 1), (1, 1), (2, 1)] := Places.mk' Try.underlying28 (by kernel_rfl)
theorem pl58 : Places Try.prog 58 [(0, 2), (2, 1), (3, 1)] := Places.mk' Try.underlying58 (by kernel_rfl)
theorem pl67 : Places Try.prog 67 [(0, 1), (1, 1)] := Places.mk' Try.underlying67 (by kernel_rfl)
theorem pl72 : Places Try.prog 72 [(0, 1), (1, 1)] := Places.mk' Try.underlying72 (by kernel_rfl)
end Go.Proofs
