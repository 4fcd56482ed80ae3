/- What the statements say, of the plain functions. -/
import Derived.Test.YtbjefkmbpbdhbaaDefs
import Derived.Test.YtbjefkmbpbdhbaaLe
import Derived.Test.YtbjefkmbpbdhbaaThPack
import Derived.Test.YtbjefkmbpbdhbaaThPack1
/- Layer 2: both readers read any bytes alike. -/
namespace Go.Gp
open Go
theorem awake2 : hocketlaw2_awake.f 100 = some () := by decide +kernel
section
variable {R : Unit → Prop}
theorem pp_l2 {acts bounds : List Int} {ex : Unit → Option Unit} (hex : Sat (ex ()) R) (s : pack_Reader) (S : hocketref1_Reader) (h : RR s.b s.bad S.B S.Bad) (hl : s.b.length ≤ 100000) (hL : S.B.length ≤ 100000) :
    Sat (hocketlaw2_PackPlays.L2 100 acts bounds ex 100 (0, s, S)) R := by
  refine sat_loop (fun v : Int × pack_Reader × hocketref1_Reader => (20 - v.1).toNat) (fun v => 0 ≤ v.1 ∧ RR v.2.1.b v.2.1.bad v.2.2.B v.2.2.Bad ∧ v.2.1.b.length ≤ 100000 ∧ v.2.2.B.length ≤ 100000) ?_ 100 _ ⟨by simp, h, hl, hL⟩ (by simp)
  rintro ⟨i, s, S⟩ ⟨h0, h1, h2, h3⟩ ag hag
  simp only at h0 h1 h2 h3
  have out : Sat (hocketlaw2_PackPlays.J5 100 acts i bounds s S ag ex false) R := by
    unfold hocketlaw2_PackPlays.J5
    exact sat_f (by simp) hex
  have next : ∀ (s' : pack_Reader) (S' : hocketref1_Reader), RR s'.b s'.bad S'.B S'.Bad → s'.b.length ≤ 100000 → S'.B.length ≤ 100000 → i < 20 → Sat (hocketlaw2_PackPlays.J6 100 ag i s' S') R := fun s' S' h1 h2 h3 h20 => by
    unfold hocketlaw2_PackPlays.J6
    refine sat_b rfl ?_
    refine sat_t (by simp only; rw [h1.1]) ?_
    refine sat_b (v := ((!s'.bad && (s'.b.length : Int) == 0), s'.b, s'.bad)) (by unfold pack_Reader_End.f; cases s'.bad <;> rfl) ?_
    refine sat_b (v := ((!S'.Bad && (S'.B.length : Int) == 0), S'.B, S'.Bad)) (by unfold hocketref1_Reader_End.f; cases S'.Bad <;> rfl) ?_
    unfold hocketlaw2_PackPlays.J7
    refine sat_f ?_ ?_
    · obtain ⟨e, h5⟩ := h1
      rw [← e]
      cases hb : s'.bad with
      | true => simp
      | false =>
        rw [hb] at h5
        have h5 : s'.b = S'.B := by simpa using h5
        rw [h5]; simp
    · have e : w64 (i + 1) = i + 1 := w64_id (by omega)
      rw [e]
      exact hag _ ⟨by simp only; omega, h1, h2, h3⟩ (by simp only; omega)
  show Sat (hocketlaw2_PackPlays.B2 100 acts bounds ex ag i s S) R
  unfold hocketlaw2_PackPlays.B2
  refine sat_if (fun c1 => sat_if (fun c2 => ?_) (fun _ => out)) (fun _ => out)
  unfold hocketlaw2_PackPlays.J5
  refine sat_if (fun c3 => ?_) (fun _ => hex)
  have h20 : i < 20 := of_decide_eq_true c3
  obtain ⟨top, ht⟩ : ∃ top, ix bounds i = some top := ⟨_, ix_get h0 (by omega)⟩
  refine sat_b (ix_get h0 (by omega)) (sat_if (fun _ => ?_) (fun _ => ?_))
  · refine sat_b ht (sat_b ht (sat_b (rbytes_eq (by decide) (by omega) _ _) (sat_b (rbytes1_eq (by decide) (by omega) _ _) ?_)))
    obtain ⟨e1, e2⟩ := h1.bytes top
    have l1 := rbytes_le top s.b s.bad
    have l2 := rbytes1_le top S.B S.Bad
    exact sat_t e1 (next _ _ e2 (by simp only; omega) (by simp only; omega) h20)
  · refine sat_b ht (sat_b ht (sat_b (rnum_eq (by decide) (by omega) _ _) (sat_b (rnum1_eq (by decide) (by omega) _ _) ?_)))
    obtain ⟨e1, e2⟩ := h1.num top
    have l1 := rnum_le top s.b s.bad
    have l2 := rnum1_le top S.B S.Bad
    exact sat_t e1 (next _ _ e2 (by simp only; omega) (by simp only; omega) h20)
theorem pp_j2 {acts bounds : List Int} {b raw c : List UInt8} (hb : b.length ≤ 400) (hr : raw.length ≤ 200) (hc : c.length ≤ 400) : Sat (hocketlaw2_PackPlays.J2 100 b raw acts bounds c) (fun _ => True) := by
  unfold hocketlaw2_PackPlays.J2
  have e : w64 (Int.tdiv (b.length : Int) 2) = ((b.length / 2 : Nat) : Int) := by
    rw [Int.tdiv_eq_ediv_of_nonneg (by omega), w64_id (by omega)]; omega
  rw [e]
  refine sat_b (cut_eq ⟨by omega, by omega, by omega⟩) (sat_b (app_eq (by simp; omega)) (sat_b (app_eq (by simp; omega)) ?_))
  have hcut : ((b.take ((b.length / 2 : Nat) : Int).toNat).drop (0 : Int).toNat).length ≤ 400 := by
    rw [List.length_drop, List.length_take]; omega
  have happ : ([] ++ b ++ raw).length ≤ 600 := by simp; omega
  generalize (b.take ((b.length / 2 : Nat) : Int).toNat).drop (0 : Int).toNat = t1 at hcut ⊢
  generalize [] ++ b ++ raw = t2 at happ ⊢
  refine sat_loop (fun v : Int => (5 - v).toNat) (fun v => 0 ≤ v) ?_ 100 _ (by simp) (by simp)
  intro i h0 ag hag
  show Sat (hocketlaw2_PackPlays.B1 100 raw b c t1 t2 acts bounds _ ag i) _
  unfold hocketlaw2_PackPlays.B1
  refine sat_if (fun c1 => ?_) (fun _ => ?_)
  · have hl : i < 5 := by simpa using c1
    have hx : ∀ x ∈ ([raw, b, c, t1, t2] : List (List UInt8)), x.length ≤ 600 := by
      intro x hx
      simp only [List.mem_cons, List.not_mem_nil, or_false] at hx
      rcases hx with rfl | rfl | rfl | rfl | rfl <;> omega
    have hi : i.toNat < ([raw, b, c, t1, t2] : List (List UInt8)).length := by simp; omega
    have hxl := hx _ (List.getElem_mem hi)
    refine sat_b (ix_get h0 hi) (sat_b (read_eq (by omega)) ?_)
    refine pp_l2 ?_ _ _ ⟨rfl, rfl⟩ (by simp only; omega) (by simp only; omega)
    unfold hocketlaw2_PackPlays.J4
    rw [w64_id (by omega)]
    exact hag _ (by omega) (by omega)
  · unfold hocketlaw2_PackPlays.J3
    exact sat_b awake2 (sat_r trivial)
theorem hocketlaw2_PackPlays.pure (raw : List UInt8) (nums acts bounds : List Int) (at_ : Int) (by_ : UInt8) {o0 : Prop} (_ : o0) (h1 : nums.length ≤ 140737488351232 ∧ ∀ x ∈ nums, i64ok x) {o2 o3 o4 : Prop} (_ : o2) (_ : o3) (_ : o4) : ∃ K r, hocketlaw2_PackPlays.f K raw nums acts bounds at_ by_ = some r := by
  refine ⟨100, sat_pure ?_⟩
  unfold hocketlaw2_PackPlays.f
  refine sat_if (fun _ => sat_b awake2 (sat_r trivial)) (fun hr => ?_)
  have hr : raw.length ≤ 200 := by omega
  refine sat_loop (fun v : List UInt8 × List UInt8 × Int => (10 - v.2.2).toNat) (fun v => 0 ≤ v.2.2 ∧ v.1 = v.2.1 ∧ (v.1.length : Int) ≤ 30 * v.2.2 ∧ v.2.2 ≤ 10) ?_ 100 _ ⟨by simp, rfl, by simp, by simp⟩ (by simp)
  rintro ⟨b, w, i⟩ ⟨h0, e, hl, h10⟩ ag hag
  simp only at h0 e hl h10
  subst e
  have out : Sat (hocketlaw2_PackPlays.J1 100 at_ raw acts bounds by_ b b) (fun _ => True) := by
    unfold hocketlaw2_PackPlays.J1
    refine sat_t rfl (sat_b (app_eq (by simp; omega)) ?_)
    simp only [List.nil_append]
    refine sat_if (fun hp => ?_) (fun _ => pp_j2 (by omega) hr (by omega))
    have hp : 0 < b.length := by omega
    have hm : band .i64 at_ 65535 = at_ % 65536 := band_m at_ 65535 16 rfl (by decide)
    refine sat_b (rem_eq (by omega)) ?_
    have ht := tmod_nn (x := band .i64 at_ 65535) (y := (b.length : Int)) (by rw [hm]; omega) (by omega)
    exact sat_b (ix_get ht.1 (by omega)) (pp_j2 (by omega) hr (by simp; omega))
  have out8 : Sat (hocketlaw2_PackPlays.J8 100 nums i b b raw ag (fun v => hocketlaw2_PackPlays.J1 100 at_ raw acts bounds by_ v.1 v.2) false) (fun _ => True) := by
    unfold hocketlaw2_PackPlays.J8
    exact sat_f (by simp) out
  show Sat (hocketlaw2_PackPlays.B3 100 nums raw _ ag b b i) _
  unfold hocketlaw2_PackPlays.B3
  refine sat_if (fun c1 => ?_) (fun _ => out8)
  unfold hocketlaw2_PackPlays.J8
  refine sat_if (fun c2 => ?_) (fun _ => out)
  have h10 : i < 10 := of_decide_eq_true c2
  have e1 : w64 (i + 1) = i + 1 := w64_id (by omega)
  have nine : ∀ x, Sat (hocketlaw2_PackPlays.J9 100 b b i raw ag x) (fun _ => True) := fun x => by
    have h9 := enc_held x
    unfold hocketlaw2_PackPlays.J9
    refine sat_b (num_eq (by decide) (by omega) x) (sat_b (num1_eq (by decide) (by omega) x) (sat_if (fun _ => ?_) (fun _ => ?_)))
    · rw [mn_eq]
      have hc := cut_eq (xs := raw) (lo := 0) (hi := min (raw.length : Int) i) ⟨by omega, by omega, by omega⟩
      have hcl : ((raw.take (min (raw.length : Int) i).toNat).drop (0 : Int).toNat).length ≤ 10 := by rw [List.length_drop, List.length_take]; omega
      have hh := enc_len9 (n := ((raw.take (min (raw.length : Int) i).toNat).drop (0 : Int).toNat).length) (by omega)
      refine sat_b hc (sat_b hc (sat_b (bytes_eq (by decide) (by simp; omega) (by omega)) (sat_b (bytes1_eq (by decide) (by simp; omega) (by omega)) ?_)))
      rw [e1]
      refine hag _ ⟨by simp only; omega, rfl, ?_, by simp only; omega⟩ (by simp only; omega)
      simp only [List.length_append] at hh ⊢
      omega
    · rw [e1]
      refine hag _ ⟨by simp only; omega, rfl, ?_, by simp only; omega⟩ (by simp only; omega)
      simp only [List.length_append]
      omega
  exact sat_b (ix_get h0 (by omega)) (sat_if (fun _ => nine _) (fun _ => nine _))
end
end Go.Gp
