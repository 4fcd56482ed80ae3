/- What the statements say, of the plain functions. -/
import Derived.Test.YteojmbigbifklaaDefs
import Derived.Test.YteojmbigbifklaaLe
/- Layer 20: who waits. -/
namespace Go.Gp
open Go
theorem all20_congr {x y u v p q : Int} (h : band .i64 x 15 = band .i64 y 15) (h2 : band .i64 u 3 = band .i64 v 3) (h3 : band .i64 p 7 = band .i64 q 7) : hocketlaw20_WaitAll.f 100 x u p = hocketlaw20_WaitAll.f 100 y v q := by
  simp only [hocketlaw20_WaitAll.f, hocketlaw20_WaitAll.L6, hocketlaw20_WaitAll.B6, hocketlaw20_WaitAll.J1, hocketlaw20_WaitAll.L3, hocketlaw20_WaitAll.B3, hocketlaw20_WaitAll.L4, hocketlaw20_WaitAll.B4, hocketlaw20_WaitAll.J5, hocketlaw20_WaitAll.J2, hocketlaw20_WaitAll.L2, hocketlaw20_WaitAll.B2, hocketlaw20_WaitAll.J3, hocketlaw20_WaitAll.L1, hocketlaw20_WaitAll.J4, h, h2, h3]
theorem all20_a : ∀ n : Fin 8, ∀ s : Fin 4, ∀ o : Fin 8, hocketlaw20_WaitAll.f 100 ((n : Nat) : Int) ((s : Nat) : Int) ((o : Nat) : Int) = some () := by decide +kernel
theorem all20_b : ∀ n : Fin 8, ∀ s : Fin 4, ∀ o : Fin 8, hocketlaw20_WaitAll.f 100 ((n : Nat) + 8 : Nat) ((s : Nat) : Int) ((o : Nat) : Int) = some () := by decide +kernel
theorem hocketlaw20_WaitAll.pure (n step order : Int) {o0 o1 o2 : Prop} (_ : o0) (_ : o1) (_ : o2) : ∃ K r, hocketlaw20_WaitAll.f K n step order = some r := by
  refine ⟨100, (), ?_⟩
  have hn : band .i64 n 15 = n % 16 := band_m n 15 4 rfl (by decide)
  have hs : band .i64 step 3 = step % 4 := band_m step 3 2 rfl (by decide)
  have ho : band .i64 order 7 = order % 8 := band_m order 7 3 rfl (by decide)
  obtain ⟨p, hp⟩ : ∃ p : Nat, (p : Int) = n % 16 := ⟨(n % 16).toNat, by omega⟩
  obtain ⟨q, hq⟩ : ∃ q : Nat, (q : Int) = step % 4 := ⟨(step % 4).toNat, by omega⟩
  obtain ⟨r, hr⟩ : ∃ r : Nat, (r : Int) = order % 8 := ⟨(order % 8).toNat, by omega⟩
  rw [all20_congr (y := p) (v := q) (q := r) (by rw [hn, band_m _ 15 4 rfl (by decide)]; omega) (by rw [hs, band_m _ 3 2 rfl (by decide)]; omega) (by rw [ho, band_m _ 7 3 rfl (by decide)]; omega)]
  by_cases h8 : p < 8
  · exact all20_a ⟨p, h8⟩ ⟨q, by omega⟩ ⟨r, by omega⟩
  · have := all20_b ⟨p - 8, by omega⟩ ⟨q, by omega⟩ ⟨r, by omega⟩
    simp only [show p - 8 + 8 = p by omega] at this
    exact this
end Go.Gp
