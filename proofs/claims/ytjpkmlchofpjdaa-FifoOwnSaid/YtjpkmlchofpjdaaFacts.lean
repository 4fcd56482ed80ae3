/- Facts of the program's types. -/
import Derived.Test.YtjpkmlchofpjdaaProg
import Derived.KernelRfl
import Derived.Test.YtjpkmlchofpjdaaKinds
namespace Go.Proofs
open Go.Gp
theorem ti3 : TI Try.prog 3 [(.int .i64 0)] (.int .i64 0) 8 := TI.mk (by kernel_rfl) rfl
theorem ti5 : TI Try.prog 5 [(.int .u8 0)] (.int .u8 0) 1 := TI.mk (by kernel_rfl) rfl
theorem ti23 : TI Try.prog 23 [(.slice none 0 0)] (.slice none 0 0) 24 := TI.mk (by kernel_rfl) rfl
theorem ti24 : TI Try.prog 24 [(.int .i64 0)] (.int .i64 0) 8 := TI.mk (by kernel_rfl) rfl
theorem ti26 : TI Try.prog 26 [(.int .i64 0), (.slice none 0 0), (.int .i64 0)] (.agg [(.int .i64 0), (.slice none 0 0), (.int .i64 0)].toArray) 40 := TI.mk (by kernel_rfl) rfl
theorem pl26 : Places Try.prog 26 [(0, 1), (1, 1), (2, 1)] := Places.mk' Try.underlying26 (by kernel_rfl)
abbrev E26 (x : api_Result) (a : Value) : List Value := [iV x.Err, a, iV x.N]
abbrev U3 := Try.underlying3
abbrev U5 := Try.underlying5
abbrev U9 := Try.underlying9
abbrev U22 := Try.underlying22
abbrev U23 := Try.underlying23
abbrev U24 := Try.underlying24
abbrev U26 := Try.underlying26
end Go.Proofs
