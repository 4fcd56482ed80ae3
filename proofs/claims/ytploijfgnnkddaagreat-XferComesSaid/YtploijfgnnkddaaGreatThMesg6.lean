/- What the statements say, of the plain functions. -/
import Derived.Test.YtploijfgnnkddaaGreatDefs
import Derived.Test.YtploijfgnnkddaaGreatLe
import Derived.Test.YtploijfgnnkddaaGreatThInts
import Derived.Test.YtploijfgnnkddaaGreatThPack
import Derived.Test.YtploijfgnnkddaaGreatThMesg
import Derived.Test.YtploijfgnnkddaaGreatThMesg2
import Derived.Test.YtploijfgnnkddaaGreatThMesg3
import Derived.Test.YtploijfgnnkddaaGreatThMesg4
import Derived.Test.YtploijfgnnkddaaGreatThMesg5
/- Messages: Encode and Decode. -/
namespace Go.Gp
open Go
theorem headM_ok {b : List UInt8} (h : (headM b).2.2 = false) : (headM b).1 = headOf (headM b).1 ∧ (0 ≤ (headM b).1.From ∧ (headM b).1.From ≤ 6) ∧ (0 ≤ (headM b).1.To ∧ (headM b).1.To ≤ 6) ∧ (0 ≤ (headM b).1.View ∧ (headM b).1.View ≤ far) ∧
    b = numsL [(headM b).1.Kind, (headM b).1.From, (headM b).1.To, (headM b).1.View] ++ (headM b).2.1 := by
  have f0 : (0 : Int) ≤ far := by decide
  have f1 := far_le
  unfold headM at h ⊢
  dsimp only at h ⊢
  obtain ⟨q3, n4, e4, m4, g4⟩ := rnum_ok h
  obtain ⟨q2, n3, e3, m3, g3⟩ := rnum_ok q3
  obtain ⟨q1, n2, e2, m2, g2⟩ := rnum_ok q2
  obtain ⟨_, n1, e1, m1, g1⟩ := rnum_ok q1
  obtain ⟨r1, u1⟩ := num_back m1 (by decide) (by decide)
  obtain ⟨r2, u2⟩ := num_back m2 (by decide) (by decide)
  obtain ⟨r3, u3⟩ := num_back m3 (by decide) (by decide)
  obtain ⟨r4, u4⟩ := num_back m4 f0 f1
  refine ⟨rfl, by rw [e2]; exact r2, by rw [e3]; exact r3, by rw [e4]; exact r4, ?_⟩
  rw [numsL_cons, numsL_cons, numsL_cons, numsL_cons, numsL_nil, e1, e2, e3, e4, u1, u2, u3, u4]
  simp only [List.append_assoc, List.append_nil]
  rw [← g4, ← g3, ← g2]
  exact g1
theorem readM_ok {b : List UInt8} (h : (readM b).2 = true) : OkM (readM b).1 ∧ canM (readM b).1 = (readM b).1 ∧ b = wire (readM b).1 := by
  unfold readM at h ⊢
  obtain ⟨hp, hhp⟩ : ∃ hp, headM b = hp := ⟨_, rfl⟩
  have hO := headM_ok (b := b)
  rw [hhp] at h hO ⊢
  obtain ⟨z, p⟩ := hp
  dsimp only at h hO ⊢
  have key : ∀ x : api_Msg, p.2 = false → OkM x → canM x = x → headOf x = z → p.1 = tailW x → OkM x ∧ canM x = x ∧ b = wire x := fun x a1 a2 a3 a4 a5 => by
    obtain ⟨_, _, _, _, o5⟩ := hO a1
    refine ⟨a2, a3, ?_⟩
    unfold wire
    rw [← a5]
    rw [← a4] at o5
    exact o5
  by_cases k16 : z.Kind = 1 ∨ z.Kind = 6
  · rw [if_pos k16] at h ⊢
    obtain ⟨q, w⟩ := fin_ok h
    obtain ⟨o1, o2, o3, o4, _⟩ := hO q
    refine key z q ⟨o2, o3, o4, by rcases k16 with k | k; exact .inl k; exact .inr (.inl k)⟩ ?_ o1.symm ?_
    · unfold canM
      rw [if_neg (by omega), if_neg (by omega), if_neg (by omega), if_neg (by omega), if_neg (by omega), if_neg (by omega)]
      exact o1.symm
    · unfold tailW
      rw [if_neg (by omega), if_neg (by omega), if_neg (by omega), if_neg (by omega), if_neg (by omega), if_neg (by omega)]
      exact w
  · rw [if_neg k16] at h ⊢
    have hq : p.2 = false := by
      cases hpb : p.2 with
      | false => rfl
      | true =>
        exfalso
        have bad1 : ∀ (top : Int) (c : List UInt8), (rnum top c true).2.2 = true := fun top c => by
          unfold rnum; cases rd top c <;> rfl
        have badk : ∀ (k : Nat) (c : List UInt8), (rnums k c true).2.2 = true := fun k => by
          induction k with
          | zero => intro c; rfl
          | succ k ih => intro c; rw [rnums_succ, bad1]; exact ih _
        have badb : ∀ (top : Int) (c : List UInt8), (rbytes top c true).2.2 = true := fun top c => by
          unfold rbytes; cases rdB top c <;> rfl
        have bade : ∀ (c : List UInt8), (getE c true).2.2 = true := fun c => by
          unfold getE; dsimp only; rw [bad1, bad1, bad1, bad1, badb, badb, badb]
        have fb : ∀ (m : api_Msg) (s : List UInt8 × Bool), s.2 = true → (finM m s).2 = false := fun m s hs => by
          unfold finM; rw [hs]; rfl
        have : (restM z p).2 = false := by
          unfold restM
          dsimp only
          rw [hpb]
          simp only [bad1]
          split
          · exact fb _ _ (bad1 _ _)
          split
          · exact fb _ _ (bad1 _ _)
          split
          · exact fb _ _ (bad1 _ _)
          split
          · exact fb _ _ (badb _ _)
          split
          · exact fb _ _ (by rw [badk, bad1, badk])
          split
          · exact fb _ _ (bade _)
          · rfl
        rw [h] at this
        cases this
    obtain ⟨o1, o2, o3, o4, _⟩ := hO hq
    by_cases k2 : z.Kind = 2
    · obtain ⟨a1, a2, a3, a4, a5⟩ := rest_ok2 o1 o2 o3 o4 k2 h; exact key _ a1 a2 a3 a4 a5
    by_cases k3 : z.Kind = 3
    · obtain ⟨a1, a2, a3, a4, a5⟩ := rest_ok3 o1 o2 o3 o4 k3 h; exact key _ a1 a2 a3 a4 a5
    by_cases k4 : z.Kind = 4
    · obtain ⟨a1, a2, a3, a4, a5⟩ := rest_ok4 o1 o2 o3 o4 k4 h; exact key _ a1 a2 a3 a4 a5
    by_cases k5 : z.Kind = 5
    · obtain ⟨a1, a2, a3, a4, a5⟩ := rest_ok5 o1 o2 o3 o4 k5 h; exact key _ a1 a2 a3 a4 a5
    by_cases k7 : z.Kind = 7
    · obtain ⟨a1, a2, a3, a4, a5⟩ := rest_ok7 o1 o2 o3 o4 k7 h; exact key _ a1 a2 a3 a4 a5
    by_cases k8 : z.Kind = 8
    · obtain ⟨a1, a2, a3, a4, a5⟩ := rest_ok8 o1 o2 o3 o4 k8 h; exact key _ a1 a2 a3 a4 a5
    · unfold restM at h
      rw [if_neg k2, if_neg k3, if_neg k4, if_neg k5, if_neg k7, if_neg k8] at h
      cases h
end Go.Gp
