/- What the statements say, of the plain functions. -/
import Derived.Test.YtploijfgnnkddaaGreatDefs
import Derived.Test.YtploijfgnnkddaaGreatLe
import Derived.Test.YtploijfgnnkddaaGreatThInts
import Derived.Test.YtploijfgnnkddaaGreatThPack
import Derived.Test.YtploijfgnnkddaaGreatThMesg
import Derived.Test.YtploijfgnnkddaaGreatThMesg2
import Derived.Test.YtploijfgnnkddaaGreatThMesg3
import Derived.Test.YtploijfgnnkddaaGreatThMesg4
/- Messages: what is read is what was written. -/
namespace Go.Gp
open Go
theorem fin_ok {m : api_Msg} {p : List UInt8 × Bool} (h : (finM m p).2 = true) : p.2 = false ∧ p.1 = [] := by
  unfold finM at h
  cases hp : p.2 with
  | true => rw [hp] at h; simp at h
  | false =>
    rw [hp] at h
    refine ⟨rfl, ?_⟩
    simpa using h
theorem num_back {n : Nat} {top : Int} (h : n ≤ held2 top) (ht : 0 ≤ top) (ht2 : top ≤ 4611686018427387904) : (0 ≤ (n : Int) ∧ (n : Int) ≤ top) ∧ held2 (n : Int) = n := by
  unfold held2 at *; omega
theorem far_le : far ≤ 4611686018427387904 := by decide
theorem rest_ok2 {z : api_Msg} {p : List UInt8 × Bool} (hz : z = headOf z) (hf : 0 ≤ z.From ∧ z.From ≤ 6) (ht : 0 ≤ z.To ∧ z.To ≤ 6) (hv : 0 ≤ z.View ∧ z.View ≤ far) (k2 : z.Kind = 2) (h : (restM z p).2 = true) :
    p.2 = false ∧ OkM (restM z p).1 ∧ canM (restM z p).1 = (restM z p).1 ∧ headOf (restM z p).1 = z ∧ p.1 = tailW (restM z p).1 := by
  have f0 : (0 : Int) ≤ far := by decide
  have f1 := far_le
  unfold restM at h ⊢
  rw [if_pos k2] at h ⊢
  dsimp only at h ⊢
  obtain ⟨q3, w3⟩ := fin_ok h
  obtain ⟨q2, n3, e3, m3, g3⟩ := rnum_ok q3
  obtain ⟨q1, n2, e2, m2, g2⟩ := rnum_ok q2
  obtain ⟨q0, n1, e1, m1, g1⟩ := rnum_ok q1
  obtain ⟨r1, u1⟩ := num_back m1 f0 f1
  obtain ⟨r2, u2⟩ := num_back m2 f0 f1
  obtain ⟨r3, u3⟩ := num_back m3 (by decide) (by decide)
  unfold finM
  dsimp only
  refine ⟨q0, ⟨hf, ht, hv, .inr (.inr (.inl ⟨k2, by rw [e1]; exact r1, by rw [e2]; exact r2⟩))⟩, ?_, ?_, ?_⟩
  · unfold canM
    dsimp only
    rw [if_pos k2]
    rw [hz]
    rfl
  · rw [hz]; rfl
  · unfold tailW
    dsimp only
    rw [if_pos k2, numsL_cons, numsL_cons, numsL_cons, numsL_nil, e1, e2, u1, u2]
    have hfl : flagI ((rnum 1 (rnum far (rnum far p.1 p.2).2.1 (rnum far p.1 p.2).2.2).2.1 (rnum far (rnum far p.1 p.2).2.1 (rnum far p.1 p.2).2.2).2.2).1 == 1) = (n3 : Int) := by
      rw [e3]
      unfold flagI
      by_cases hn : n3 = 1
      · subst hn; rfl
      · have : n3 = 0 := by omega
        subst this; rfl
    rw [hfl, u3, List.append_nil]
    rw [w3, List.append_nil] at g3
    rw [← g3, ← g2]
    exact g1
theorem rest_ok4 {z : api_Msg} {p : List UInt8 × Bool} (hz : z = headOf z) (hf : 0 ≤ z.From ∧ z.From ≤ 6) (ht : 0 ≤ z.To ∧ z.To ≤ 6) (hv : 0 ≤ z.View ∧ z.View ≤ far) (k4 : z.Kind = 4) (h : (restM z p).2 = true) :
    p.2 = false ∧ OkM (restM z p).1 ∧ canM (restM z p).1 = (restM z p).1 ∧ headOf (restM z p).1 = z ∧ p.1 = tailW (restM z p).1 := by
  have f0 : (0 : Int) ≤ far := by decide
  have f1 := far_le
  unfold restM at h ⊢
  rw [if_neg (by omega), if_neg (by omega), if_pos k4] at h ⊢
  dsimp only at h ⊢
  obtain ⟨q1, w1⟩ := fin_ok h
  obtain ⟨q0, n1, e1, m1, g1⟩ := rnum_ok q1
  obtain ⟨r1, u1⟩ := num_back m1 f0 f1
  unfold finM
  dsimp only
  refine ⟨q0, ⟨hf, ht, hv, .inr (.inr (.inr (.inr (.inl ⟨k4, by rw [e1]; exact r1⟩))))⟩, ?_, ?_, ?_⟩
  · unfold canM
    dsimp only
    rw [if_neg (by omega), if_neg (by omega), if_pos k4]
    rw [hz]
    rfl
  · rw [hz]; rfl
  · unfold tailW
    dsimp only
    rw [if_neg (by omega), if_neg (by omega), if_pos k4, numsL_cons, numsL_nil, e1, u1]
    rw [w1] at g1
    exact g1
theorem rest_ok3 {z : api_Msg} {p : List UInt8 × Bool} (hz : z = headOf z) (hf : 0 ≤ z.From ∧ z.From ≤ 6) (ht : 0 ≤ z.To ∧ z.To ≤ 6) (hv : 0 ≤ z.View ∧ z.View ≤ far) (k3 : z.Kind = 3) (h : (restM z p).2 = true) :
    p.2 = false ∧ OkM (restM z p).1 ∧ canM (restM z p).1 = (restM z p).1 ∧ headOf (restM z p).1 = z ∧ p.1 = tailW (restM z p).1 := by
  have f0 : (0 : Int) ≤ far := by decide
  have f1 := far_le
  unfold restM at h ⊢
  rw [if_neg (by omega), if_pos k3] at h ⊢
  dsimp only at h ⊢
  obtain ⟨q3, w3⟩ := fin_ok h
  obtain ⟨q2, n3, e3, m3, g3⟩ := rnum_ok q3
  obtain ⟨q1, n2, e2, m2, g2⟩ := rnum_ok q2
  obtain ⟨q0, n1, e1, m1, g1⟩ := rnum_ok q1
  obtain ⟨r1, u1⟩ := num_back m1 (by decide) (by decide)
  obtain ⟨r2, u2⟩ := num_back m2 (by decide) (by decide)
  obtain ⟨r3, u3⟩ := num_back m3 f0 f1
  unfold finM
  dsimp only
  refine ⟨q0, ⟨hf, ht, hv, .inr (.inr (.inr (.inl ⟨k3, by rw [e1]; exact r1, by rw [e2]; exact r2, by rw [e3]; exact r3⟩)))⟩, ?_, ?_, ?_⟩
  · unfold canM
    dsimp only
    rw [if_neg (by omega), if_pos k3]
    rw [hz]
    rfl
  · rw [hz]; rfl
  · unfold tailW
    dsimp only
    rw [if_neg (by omega), if_pos k3, numsL_cons, numsL_cons, numsL_cons, numsL_nil, e1, e2, e3, u1, u2, u3, List.append_nil]
    rw [w3, List.append_nil] at g3
    rw [← g3, ← g2]
    exact g1
theorem rest_ok8 {z : api_Msg} {p : List UInt8 × Bool} (hz : z = headOf z) (hf : 0 ≤ z.From ∧ z.From ≤ 6) (ht : 0 ≤ z.To ∧ z.To ≤ 6) (hv : 0 ≤ z.View ∧ z.View ≤ far) (k8 : z.Kind = 8) (h : (restM z p).2 = true) :
    p.2 = false ∧ OkM (restM z p).1 ∧ canM (restM z p).1 = (restM z p).1 ∧ headOf (restM z p).1 = z ∧ p.1 = tailW (restM z p).1 := by
  have f0 : (0 : Int) ≤ far := by decide
  have f1 := far_le
  unfold restM at h ⊢
  rw [if_neg (by omega), if_neg (by omega), if_neg (by omega), if_neg (by omega), if_neg (by omega), if_pos k8] at h ⊢
  dsimp only at h ⊢
  obtain ⟨q2, w2⟩ := fin_ok h
  obtain ⟨q1, x2, g2⟩ := getE_ok q2
  obtain ⟨q0, n1, e1, m1, g1⟩ := rnum_ok q1
  obtain ⟨r1, u1⟩ := num_back m1 f0 f1
  unfold finM
  dsimp only
  refine ⟨q0, ⟨hf, ht, hv, .inr (.inr (.inr (.inr (.inr (.inr (.inr ⟨k8, by rw [e1]; exact r1, x2⟩))))))⟩, ?_, ?_, ?_⟩
  · unfold canM
    dsimp only
    rw [if_neg (by omega), if_neg (by omega), if_neg (by omega), if_neg (by omega), if_neg (by omega), if_pos k8]
    rw [hz]
    rfl
  · rw [hz]; rfl
  · unfold tailW
    dsimp only
    rw [if_neg (by omega), if_neg (by omega), if_neg (by omega), if_neg (by omega), if_neg (by omega), if_pos k8, numsL_cons, numsL_nil, e1, u1, List.append_nil]
    rw [w2, List.append_nil] at g2
    rw [← g2]
    exact g1
theorem rest_ok5 {z : api_Msg} {p : List UInt8 × Bool} (hz : z = headOf z) (hf : 0 ≤ z.From ∧ z.From ≤ 6) (ht : 0 ≤ z.To ∧ z.To ≤ 6) (hv : 0 ≤ z.View ∧ z.View ≤ far) (k5 : z.Kind = 5) (h : (restM z p).2 = true) :
    p.2 = false ∧ OkM (restM z p).1 ∧ canM (restM z p).1 = (restM z p).1 ∧ headOf (restM z p).1 = z ∧ p.1 = tailW (restM z p).1 := by
  have f0 : (0 : Int) ≤ far := by decide
  have f1 := far_le
  unfold restM at h ⊢
  rw [if_neg (by omega), if_neg (by omega), if_neg (by omega), if_pos k5] at h ⊢
  dsimp only at h ⊢
  obtain ⟨q3, w3⟩ := fin_ok h
  obtain ⟨q2, l3, g3⟩ := rbytes_ok q3
  obtain ⟨q1, n2, e2, m2, g2⟩ := rnum_ok q2
  obtain ⟨q0, n1, e1, m1, g1⟩ := rnum_ok q1
  obtain ⟨r1, u1⟩ := num_back m1 f0 f1
  obtain ⟨r2, u2⟩ := num_back m2 f0 f1
  rw [show held2 64 = 64 by decide] at l3
  unfold finM
  dsimp only
  refine ⟨q0, ⟨hf, ht, hv, .inr (.inr (.inr (.inr (.inr (.inl ⟨k5, by rw [e1]; exact r1, by rw [e2]; exact r2, l3⟩)))))⟩, ?_, ?_, ?_⟩
  · unfold canM
    dsimp only
    rw [if_neg (by omega), if_neg (by omega), if_neg (by omega), if_pos k5]
    rw [hz]
    rfl
  · rw [hz]; rfl
  · unfold tailW
    dsimp only
    rw [if_neg (by omega), if_neg (by omega), if_neg (by omega), if_pos k5, numsL_cons, numsL_cons, numsL_nil, e1, e2, u1, u2, List.append_nil, List.append_assoc]
    rw [w3, List.append_nil] at g3
    rw [← g3, ← g2]
    exact g1
theorem row_ok {top : Int} {b : List UInt8} {bad : Bool} {l : List Int} {r : List UInt8 × Bool} (hr : rnums (rnum top b bad).1.toNat (rnum top b bad).2.1 (rnum top b bad).2.2 = (l, r)) (h : r.2 = false) :
    bad = false ∧ l.length ≤ held2 top ∧ (∀ x ∈ l, 0 ≤ x ∧ x ≤ far) ∧ b = enc l.length ++ (numsL l ++ r.1) := by
  have hl := (rnums_len (rnum top b bad).1.toNat (rnum top b bad).2.1 (rnum top b bad).2.2).1
  have hk := rnums_ok (rnum top b bad).1.toNat (rnum top b bad).2.1 (rnum top b bad).2.2
  rw [hr] at hl hk
  obtain ⟨q1, x1, g1⟩ := hk h
  obtain ⟨q0, n, e, m, g0⟩ := rnum_ok q1
  dsimp only at hl x1 g1
  rw [e, Int.toNat_natCast] at hl
  rw [hl]
  exact ⟨q0, m, x1, by rw [← g1]; exact g0⟩
theorem rest_ok7 {z : api_Msg} {p : List UInt8 × Bool} (hz : z = headOf z) (hf : 0 ≤ z.From ∧ z.From ≤ 6) (ht : 0 ≤ z.To ∧ z.To ≤ 6) (hv : 0 ≤ z.View ∧ z.View ≤ far) (k7 : z.Kind = 7) (h : (restM z p).2 = true) :
    p.2 = false ∧ OkM (restM z p).1 ∧ canM (restM z p).1 = (restM z p).1 ∧ headOf (restM z p).1 = z ∧ p.1 = tailW (restM z p).1 := by
  have f0 : (0 : Int) ≤ far := by decide
  have f1 := far_le
  unfold restM at h ⊢
  rw [if_neg (by omega), if_neg (by omega), if_neg (by omega), if_neg (by omega), if_pos k7] at h ⊢
  dsimp only at h ⊢
  obtain ⟨a, ha⟩ : ∃ a, rnum far p.1 p.2 = a := ⟨_, rfl⟩
  rw [ha] at h ⊢
  obtain ⟨c, hc⟩ : ∃ c, rnum far a.2.1 a.2.2 = c := ⟨_, rfl⟩
  rw [hc] at h ⊢
  obtain ⟨d, hd⟩ : ∃ d, rnums (rnum 7 c.2.1 c.2.2).1.toNat (rnum 7 c.2.1 c.2.2).2.1 (rnum 7 c.2.1 c.2.2).2.2 = d := ⟨_, rfl⟩
  rw [hd] at h ⊢
  obtain ⟨e, he⟩ : ∃ e, rnums (rnum 8 d.2.1 d.2.2).1.toNat (rnum 8 d.2.1 d.2.2).2.1 (rnum 8 d.2.1 d.2.2).2.2 = e := ⟨_, rfl⟩
  rw [he] at h ⊢
  obtain ⟨q4, w4⟩ := fin_ok h
  obtain ⟨q3, l4, x4, g4⟩ := row_ok (l := e.1) (r := e.2) he q4
  obtain ⟨q2, l3, x3, g3⟩ := row_ok (l := d.1) (r := d.2) hd q3
  rw [← hc] at q2
  obtain ⟨q1, n2, e2, m2, g2⟩ := rnum_ok q2
  rw [← ha] at q1
  obtain ⟨q0, n1, e1, m1, g1⟩ := rnum_ok q1
  rw [hc] at e2 g2
  rw [ha] at e1 g1
  obtain ⟨r1, u1⟩ := num_back m1 f0 f1
  obtain ⟨r2, u2⟩ := num_back m2 f0 f1
  rw [show held2 7 = 7 by decide] at l3
  rw [show held2 8 = 8 by decide] at l4
  unfold finM
  dsimp only
  refine ⟨q0, ⟨hf, ht, hv, .inr (.inr (.inr (.inr (.inr (.inr (.inl ⟨k7, by rw [e1]; exact r1, by rw [e2]; exact r2, ⟨l3, x3⟩, ⟨l4, x4⟩⟩))))))⟩, ?_, ?_, ?_⟩
  · unfold canM
    dsimp only
    rw [if_neg (by omega), if_neg (by omega), if_neg (by omega), if_neg (by omega), if_pos k7]
    rw [hz]
    rfl
  · rw [hz]; rfl
  · unfold tailW
    dsimp only
    rw [if_neg (by omega), if_neg (by omega), if_neg (by omega), if_neg (by omega), if_pos k7, numsL_cons, numsL_cons, numsL_nil, e1, e2, u1, u2, List.append_nil]
    rw [w4, List.append_nil] at g4
    simp only [List.append_assoc]
    rw [← g4, ← g3, ← g2]
    exact g1
end Go.Gp
