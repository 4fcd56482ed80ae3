/- What the statements say, of the plain functions. -/
import Derived.Test.YtabedbggldnkhaaDefs
import Derived.Test.YtabedbggldnkhaaLe
import Derived.Test.YtabedbggldnkhaaThInts
/- The token: what is safe, what room there is, how it is handed on. -/
namespace Go.Gp
open Go
def safeL : List Int → Int
  | [] => 0
  | x :: l => l.foldl min x
theorem foldl_min (l : List Int) : ∀ x y : Int, l.foldl min x ≤ x ∧ (∀ z ∈ l, l.foldl min x ≤ z) ∧ (y ≤ x → (∀ z ∈ l, y ≤ z) → y ≤ l.foldl min x) := by
  induction l with
  | nil => intro x y; simp
  | cons a l ih =>
    intro x y
    obtain ⟨h1, h2, h3⟩ := ih (min x a) y
    simp only [List.foldl_cons]
    refine ⟨by omega, fun z hz => ?_, fun hx hz => h3 (by have := hz a (by simp); omega) (fun z h => hz z (List.mem_cons_of_mem _ h))⟩
    simp only [List.mem_cons] at hz
    rcases hz with rfl | hz
    · omega
    · exact h2 z hz
theorem safeL_le {l : List Int} {x : Int} (h : x ∈ l) : safeL l ≤ x := by
  cases l with
  | nil => simp at h
  | cons a l =>
    obtain ⟨h1, h2, _⟩ := foldl_min l a 0
    simp only [List.mem_cons] at h
    unfold safeL
    rcases h with rfl | h
    · exact h1
    · exact h2 x h
theorem le_safeL {l : List Int} {y : Int} (h : l ≠ []) (hy : ∀ x ∈ l, y ≤ x) : y ≤ safeL l := by
  cases l with
  | nil => exact absurd rfl h
  | cons a l => exact (foldl_min l a y).2.2 (hy a (by simp)) (fun z hz => hy z (List.mem_cons_of_mem _ hz))
theorem safe_eq {m : api_Msg} (h : m.Have.length < 90) : tokn_Safe.f 100 m = some (safeL m.Have) := by
  suffices hs : Sat (tokn_Safe.f 100 m) (fun r => r = safeL m.Have) by
    obtain ⟨r, h1, h2⟩ := hs; rw [h1, h2]
  unfold tokn_Safe.f slices_Min_sint_int.f
  generalize m.Have = l at *
  cases l with
  | nil => exact sat_t rfl (sat_r rfl)
  | cons a l =>
    refine sat_f (by simp; omega) (sat_bs (S := fun r => r = safeL (a :: l)) ?_ (fun v hv => sat_r hv))
    refine sat_f (by simp; omega) (sat_b (ix_get (by omega) (by simp)) ?_)
    refine sat_loop (fun v : Int × Int => (((a :: l).length : Int) - v.2).toNat) (fun v => ∃ i : Nat, v.2 = i ∧ 1 ≤ i ∧ i ≤ (a :: l).length ∧ v.1 = (l.take (i - 1)).foldl min a) ?_ 100 _ ⟨1, rfl, by omega, by simp, by simp⟩ (by simp only; omega)
    rintro ⟨x, j⟩ ⟨i, h1, h2, h3, h4⟩ ag hag
    simp only at h1 h4
    subst h1 h4
    show Sat (slices_Min_sint_int.B1 100 (a :: l) _ ag _ _) _
    unfold slices_Min_sint_int.B1
    dsimp only
    refine sat_if (fun hlt => ?_) (fun hge => ?_)
    · have hi : i < (a :: l).length := by omega
      refine sat_b (ix_get (by omega) (by simpa using hi)) ?_
      have hw : w64 ((i : Int) + 1) = ((i + 1 : Nat) : Int) := by rw [w64_succ (by omega) (by omega)]; simp
      rw [hw]
      refine hag _ ⟨i + 1, rfl, by omega, by omega, ?_⟩ (by simp only; omega)
      simp only [Int.toNat_natCast, Nat.add_sub_cancel]
      obtain ⟨k, rfl⟩ : ∃ k, i = k + 1 := ⟨i - 1, by omega⟩
      simp only [List.length_cons] at hi
      simp only [Nat.add_sub_cancel, List.getElem_cons_succ]
      rw [mn_eq, ← List.take_append_getElem (l := l) (i := k) (by omega), List.foldl_append]
      rfl
    · have : i = (a :: l).length := by omega
      subst this
      unfold slices_Min_sint_int.J1
      refine sat_r ?_
      simp [safeL]
def roomL (m : api_Msg) : Int := mn (mx (w64 ((w64 (safeL m.Have + 16)) - m.Seq)) 0) 4
theorem room_eq {m : api_Msg} (h : m.Have.length < 90) : tokn_Room.f 100 m = some (roomL m) := by
  unfold tokn_Room.f
  rw [safe_eq h]
  rfl
/-- What each has, once one has told how far it is. -/
def haveL (l : List Int) (place whole : Int) : List Int := if 0 ≤ place ∧ place < (l.length : Int) then l.set place.toNat whole else l
def Passed (m : api_Msg) (place whole fresh : Int) (missing : List Int) (r : api_Msg × List Int) : Prop :=
  r.1.Have = haveL m.Have place whole ∧ r.1.Seq = w64 (m.Seq + mn (mx fresh 0) (roomL m)) ∧ r.1.Hop = w64 (m.Hop + 1) ∧ r.1.Need.length ≤ 8 ∧
  (∀ x ∈ r.1.Need, safeL (haveL m.Have place whole) < x ∧ (x ∈ m.Need ∨ x ∈ missing)) ∧ r.2.length ≤ m.Need.length
theorem pass_sat {m : api_Msg} {has missing : List Int} (h1 : m.Have.length < 90) (h2 : m.Need.length < 40) (h3 : has.length < 90) (h4 : missing.length < 40) (me place next whole fresh : Int) :
    Sat (tokn_Pass.f 100 m me place next whole fresh has missing) (Passed m place whole fresh missing) := by
  unfold tokn_Pass.f
  refine sat_b (room_eq h1) (sat_b (clone_int (by omega)) ?_)
  have two : ∀ hv, hv = haveL m.Have place whole → Sat (tokn_Pass.J2 100 m me next fresh (roomL m) has missing hv) (Passed m place whole fresh missing) := fun hv hhv => by
    unfold tokn_Pass.J2
    have hl : hv.length = m.Have.length := by rw [hhv]; unfold haveL; split <;> simp
    refine sat_b (safe_eq (by simp only; omega)) ?_
    dsimp only
    refine sat_loop (fun v : List Int × List Int × Int => ((m.Need.length : Int) - v.2.2).toNat) (fun v => 0 ≤ v.2.2 ∧ v.2.2 ≤ m.Need.length ∧ (v.1.length : Int) ≤ v.2.2 ∧ (v.2.1.length : Int) ≤ v.2.2 ∧ ∀ x ∈ v.2.1, safeL hv < x ∧ x ∈ m.Need) ?_ 100 _ ⟨by simp, by simp, by simp, by simp, by simp⟩ (by simp only; omega)
    rintro ⟨again, left, i⟩ ⟨k0, k1, k2, k3, k4⟩ ag hag
    simp only at k0 k1 k2 k3 k4
    show Sat (tokn_Pass.B2 100 m has _ _ ag again left i) _
    unfold tokn_Pass.B2
    refine sat_if (fun hlt => ?_) (fun hge => ?_)
    · have hin : m.Need[i.toNat] ∈ m.Need := List.getElem_mem _
      refine sat_b (ix_get k0 (by omega)) (sat_b (contains_int (by omega) (by omega) _) ?_)
      have hw : w64 (i + 1) = i + 1 := w64_id (by omega)
      rw [hw]
      refine sat_if (fun _ => ?_) (fun _ => ?_)
      · refine sat_b (app_eq (by simp only [List.length_singleton]; omega)) (hag _ ⟨by simp only; omega, by simp only; omega, by simp; omega, by simp only; omega, k4⟩ (by simp only; omega))
      · refine sat_if (fun hgt => ?_) (fun _ => ?_)
        · refine sat_b (app_eq (by simp only [List.length_singleton]; omega)) (hag _ ⟨by simp only; omega, by simp only; omega, by simp only; omega, by simp; omega, ?_⟩ (by simp only; omega))
          intro x hx
          simp only [List.mem_append, List.mem_singleton] at hx
          rcases hx with hx | rfl
          · exact k4 x hx
          · exact ⟨by omega, hin⟩
        · exact hag _ ⟨by simp only; omega, by simp only; omega, by simp only; omega, by simp only; omega, k4⟩ (by simp only; omega)
    · show Sat (tokn_Pass.J3 100 missing (safeL hv) m me next fresh (roomL m) hv again left) _
      unfold tokn_Pass.J3
      refine sat_loop (fun v : List Int × Int => ((missing.length : Int) - v.2).toNat) (fun v => 0 ≤ v.2 ∧ v.2 ≤ missing.length ∧ (v.1.length : Int) ≤ m.Need.length + v.2 ∧ ∀ x ∈ v.1, safeL hv < x ∧ (x ∈ m.Need ∨ x ∈ missing)) ?_ 100 _ ⟨by simp, by simp, by simp only; omega, fun x hx => ⟨(k4 x hx).1, .inl (k4 x hx).2⟩⟩ (by simp only; omega)
      rintro ⟨left2, j⟩ ⟨q0, q1, q2, q3⟩ ag2 hag2
      simp only at q0 q1 q2 q3
      show Sat (tokn_Pass.B1 100 missing _ _ ag2 left2 j) _
      unfold tokn_Pass.B1
      have hw : w64 (j + 1) = j + 1 ∨ j ≥ missing.length := by
        by_cases h : j < missing.length
        · exact .inl (w64_id (by omega))
        · exact .inr (by omega)
      refine sat_if (fun hlt => ?_) (fun hge2 => ?_)
      · have hin : missing[j.toNat] ∈ missing := List.getElem_mem _
        have hw : w64 (j + 1) = j + 1 := w64_id (by omega)
        refine sat_b (ix_get q0 (by omega)) ?_
        have five : ∀ b : Bool, (b = true → safeL hv < missing[j.toNat]) → Sat (tokn_Pass.J5 100 left2 missing[j.toNat] ag2 j b) (Passed m place whole fresh missing) := fun b hb => by
          unfold tokn_Pass.J5
          rw [hw]
          refine sat_if (fun hy => ?_) (fun _ => hag2 _ ⟨by simp only; omega, by simp only; omega, by simp only; omega, q3⟩ (by simp only; omega))
          refine sat_b (app_eq (by simp only [List.length_singleton]; omega)) (hag2 _ ⟨by simp only; omega, by simp only; omega, by simp; omega, ?_⟩ (by simp only; omega))
          intro x hx
          simp only [List.mem_append, List.mem_singleton] at hx
          rcases hx with hx | rfl
          · exact q3 x hx
          · exact ⟨hb hy, .inr hin⟩
        refine sat_if (fun hgt => sat_b (contains_int (by omega) (by omega) _) (five _ (fun _ => by omega))) (fun _ => five false (fun h => by cases h))
      · show Sat (tokn_Pass.J4 100 m me next fresh (roomL m) hv again left2) _
        unfold tokn_Pass.J4
        have hmn : 0 ≤ mn (left2.length : Int) 8 ∧ mn (left2.length : Int) 8 ≤ left2.length ∧ mn (left2.length : Int) 8 ≤ 8 := by rw [mn_eq]; omega
        refine sat_b (cut_eq (by omega)) (sat_b (clone_int (by simp; omega)) (sat_r ⟨hhv, rfl, rfl, ?_, ?_, by simp only; omega⟩))
        · simp only [Int.toNat_zero, List.drop_zero, List.length_take]; omega
        · intro x hx
          simp only [Int.toNat_zero, List.drop_zero] at hx
          rw [← hhv]
          exact q3 x (List.mem_of_mem_take hx)
  have one : ∀ b : Bool, (b = true ↔ 0 ≤ place ∧ place < (m.Have.length : Int)) → Sat (tokn_Pass.J1 100 m.Have place m me next fresh (roomL m) has missing whole b) (Passed m place whole fresh missing) := fun b hb => by
    unfold tokn_Pass.J1
    refine sat_if (fun hy => ?_) (fun hn => ?_)
    · have := hb.1 hy
      exact sat_b (ix_get (by omega) (by omega)) (two _ (by unfold haveL; rw [if_pos this]))
    · exact two _ (by unfold haveL; rw [if_neg (fun h => hn (hb.2 h))])
  refine sat_if (fun h => one _ ?_) (fun h => one false ⟨fun h => (by cases h), fun h' => absurd h'.1 h⟩)
  simp only [decide_eq_true_eq]
  exact ⟨fun h' => ⟨h, h'⟩, fun h' => h'.2⟩
end Go.Gp
