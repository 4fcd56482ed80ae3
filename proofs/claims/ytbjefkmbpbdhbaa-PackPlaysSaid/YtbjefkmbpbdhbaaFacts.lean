/- Facts of the program's types. -/
import Derived.Test.YtbjefkmbpbdhbaaProg
import Derived.KernelRfl
import Derived.Test.YtbjefkmbpbdhbaaKinds
namespace Go.Proofs
open Go.Gp
theorem ti3 : TI Try.prog 3 [(.int .i64 0)] (.int .i64 0) 8 := TI.mk (by kernel_rfl) rfl
theorem ti4 : TI Try.prog 4 [(.bool false)] (.bool false) 1 := TI.mk (by kernel_rfl) rfl
theorem ti5 : TI Try.prog 5 [(.int .u8 0)] (.int .u8 0) 1 := TI.mk (by kernel_rfl) rfl
theorem ti9 : TI Try.prog 9 [(.string ⟨#[]⟩)] (.string ⟨#[]⟩) 16 := TI.mk (by kernel_rfl) rfl
theorem ti22 : TI Try.prog 22 [(.int .i64 0)] (.int .i64 0) 8 := TI.mk (by kernel_rfl) rfl
theorem ti23 : TI Try.prog 23 [(.string ⟨#[]⟩), (.string ⟨#[]⟩), (.string ⟨#[]⟩), (.string ⟨#[]⟩), (.int .i64 0), (.string ⟨#[]⟩)] (.agg [(.string ⟨#[]⟩), (.string ⟨#[]⟩), (.string ⟨#[]⟩), (.string ⟨#[]⟩), (.int .i64 0), (.string ⟨#[]⟩)].toArray) 88 := TI.mk (by kernel_rfl) rfl
theorem ti25 : TI Try.prog 25 [(.slice none 0 0)] (.slice none 0 0) 24 := TI.mk (by kernel_rfl) rfl
theorem ti27 : TI Try.prog 27 [(.int .i64 0), (.slice none 0 0), (.int .i64 0)] (.agg [(.int .i64 0), (.slice none 0 0), (.int .i64 0)].toArray) 40 := TI.mk (by kernel_rfl) rfl
theorem ti47 : TI Try.prog 47 [(.int .i64 0), (.string ⟨#[]⟩), (.bool false)] (.agg [(.int .i64 0), (.string ⟨#[]⟩), (.bool false)].toArray) 32 := TI.mk (by kernel_rfl) rfl
theorem ti58 : TI Try.prog 58 [(.slice none 0 0), (.bool false)] (.agg [(.slice none 0 0), (.bool false)].toArray) 32 := TI.mk (by kernel_rfl) rfl
theorem ti66 : TI Try.prog 66 [(.slice none 0 0), (.bool false)] (.agg [(.slice none 0 0), (.bool false)].toArray) 32 := TI.mk (by kernel_rfl) rfl
theorem pl23 : Places Try.prog 23 [(0, 1), (1, 1), (2, 1), (3, 1), (4, 1), (5, 1)] := Places.mk' Try.underlying23 (by kernel_rfl)
theorem pl27 : Places Try.prog 27 [(0, 1), (1, 1), (2, 1)] := Places.mk' Try.underlying27 (by kernel_rfl)
theorem pl47 : Places Try.prog 47 [(0, 1), (1, 1), (2, 1)] := Places.mk' Try.underlying47 (by kernel_rfl)
theorem pl58 : Places Try.prog 58 [(0, 1), (1, 1)] := Places.mk' Try.underlying58 (by kernel_rfl)
theorem pl66 : Places Try.prog 66 [(0, 1), (1, 1)] := Places.mk' Try.underlying66 (by kernel_rfl)
end Go.Proofs
