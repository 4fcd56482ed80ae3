/- What the statements say, of the plain functions. -/
import Derived.Test.YtploijfgnnkddaaGreatDefs
import Derived.Test.YtploijfgnnkddaaGreatLe
import Derived.Test.YtploijfgnnkddaaGreatThInts
import Derived.Test.YtploijfgnnkddaaGreatThPack
import Derived.Test.YtploijfgnnkddaaGreatThMesg
import Derived.Test.YtploijfgnnkddaaGreatThMesg2
import Derived.Test.YtploijfgnnkddaaGreatThMesg3
import Derived.Test.YtploijfgnnkddaaGreatThMesg4
import Derived.Test.YtploijfgnnkddaaGreatThMesg5
import Derived.Test.YtploijfgnnkddaaGreatThMesg6
import Derived.Test.YtploijfgnnkddaaGreatThMsg
import Derived.Test.YtploijfgnnkddaaGreatThMesg7
/- Messages: Encode and Decode, whole. -/
namespace Go.Gp
open Go
theorem canM_head (m : api_Msg) : (canM m).Kind = m.Kind ∧ (canM m).From = m.From ∧ (canM m).To = m.To ∧ (canM m).View = m.View := by
  unfold canM
  split
  · exact ⟨rfl, rfl, rfl, rfl⟩
  split
  · exact ⟨rfl, rfl, rfl, rfl⟩
  split
  · exact ⟨rfl, rfl, rfl, rfl⟩
  split
  · exact ⟨rfl, rfl, rfl, rfl⟩
  split
  · exact ⟨rfl, rfl, rfl, rfl⟩
  split
  · exact ⟨rfl, rfl, rfl, rfl⟩
  · exact ⟨rfl, rfl, rfl, rfl⟩
theorem canM_fields {m x : api_Msg} (h : canM m = canM x) : m.Kind = x.Kind ∧ m.From = x.From ∧ m.To = x.To ∧ m.View = x.View ∧
    (m.Kind = 2 → m.Inst = x.Inst ∧ m.Len = x.Len ∧ m.Has = x.Has) ∧ (m.Kind = 3 → m.Members = x.Members ∧ m.Source = x.Source ∧ m.Len = x.Len) ∧ (m.Kind = 4 → m.At = x.At) ∧
    (m.Kind = 5 → m.At = x.At ∧ m.Total = x.Total ∧ m.Data = x.Data) ∧ (m.Kind = 7 → m.Hop = x.Hop ∧ m.Seq = x.Seq ∧ m.Have = x.Have ∧ m.Need = x.Need) ∧ (m.Kind = 8 → m.Index = x.Index ∧ m.Entry = x.Entry) := by
  obtain ⟨a1, a2, a3, a4⟩ := canM_head m
  obtain ⟨b1, b2, b3, b4⟩ := canM_head x
  rw [h] at a1 a2 a3 a4
  have k : m.Kind = x.Kind := a1.symm.trans b1
  refine ⟨k, a2.symm.trans b2, a3.symm.trans b3, a4.symm.trans b4, ?_, ?_, ?_, ?_, ?_, ?_⟩ <;> intro hk <;> have hx := hk <;> rw [k] at hx <;> unfold canM at h <;> simp only [hk, hx, Int.reduceEq, if_true, if_false] at h
  · have c := fun {α : Type} (f : api_Msg → α) => congrArg f h; exact ⟨c api_Msg.Inst, c api_Msg.Len, c api_Msg.Has⟩
  · have c := fun {α : Type} (f : api_Msg → α) => congrArg f h; exact ⟨c api_Msg.Members, c api_Msg.Source, c api_Msg.Len⟩
  · have c := fun {α : Type} (f : api_Msg → α) => congrArg f h; exact c api_Msg.At
  · have c := fun {α : Type} (f : api_Msg → α) => congrArg f h; exact ⟨c api_Msg.At, c api_Msg.Total, c api_Msg.Data⟩
  · have c := fun {α : Type} (f : api_Msg → α) => congrArg f h; exact ⟨c api_Msg.Hop, c api_Msg.Seq, c api_Msg.Have, c api_Msg.Need⟩
  · have c := fun {α : Type} (f : api_Msg → α) => congrArg f h; exact ⟨c api_Msg.Index, c api_Msg.Entry⟩
theorem canM_congr {m x : api_Msg} (k : m.Kind = x.Kind) (f : m.From = x.From) (t : m.To = x.To) (v : m.View = x.View)
    (k2 : m.Kind = 2 → m.Inst = x.Inst ∧ m.Len = x.Len ∧ m.Has = x.Has) (k3 : m.Kind = 3 → m.Members = x.Members ∧ m.Source = x.Source ∧ m.Len = x.Len) (k4 : m.Kind = 4 → m.At = x.At)
    (k5 : m.Kind = 5 → m.At = x.At ∧ m.Total = x.Total ∧ m.Data = x.Data) (k7 : m.Kind = 7 → m.Hop = x.Hop ∧ m.Seq = x.Seq ∧ m.Have = x.Have ∧ m.Need = x.Need) (k8 : m.Kind = 8 → m.Index = x.Index ∧ m.Entry = x.Entry) : canM m = canM x := by
  have hh : headOf m = headOf x := by unfold headOf; rw [k, f, t, v]
  unfold canM
  rw [hh, ← k]
  by_cases h2 : m.Kind = 2
  · obtain ⟨p, q, r⟩ := k2 h2; rw [if_pos h2, if_pos h2, p, q, r]
  by_cases h3 : m.Kind = 3
  · obtain ⟨p, q, r⟩ := k3 h3; rw [if_neg h2, if_neg h2, if_pos h3, if_pos h3, p, q, r]
  by_cases h4 : m.Kind = 4
  · have p := k4 h4; rw [if_neg h2, if_neg h2, if_neg h3, if_neg h3, if_pos h4, if_pos h4, p]
  by_cases h5 : m.Kind = 5
  · obtain ⟨p, q, r⟩ := k5 h5; rw [if_neg h2, if_neg h2, if_neg h3, if_neg h3, if_neg h4, if_neg h4, if_pos h5, if_pos h5, p, q, r]
  by_cases h7 : m.Kind = 7
  · obtain ⟨p, q, r, s⟩ := k7 h7; rw [if_neg h2, if_neg h2, if_neg h3, if_neg h3, if_neg h4, if_neg h4, if_neg h5, if_neg h5, if_pos h7, if_pos h7, p, q, r, s]
  by_cases h8 : m.Kind = 8
  · obtain ⟨p, q⟩ := k8 h8; rw [if_neg h2, if_neg h2, if_neg h3, if_neg h3, if_neg h4, if_neg h4, if_neg h5, if_neg h5, if_neg h7, if_neg h7, if_pos h8, if_pos h8, p, q]
  · rw [if_neg h2, if_neg h2, if_neg h3, if_neg h3, if_neg h4, if_neg h4, if_neg h5, if_neg h5, if_neg h7, if_neg h7, if_neg h8, if_neg h8]
theorem OkM_congr {m x : api_Msg} (h : canM m = canM x) (hx : OkM x) : OkM m := by
  obtain ⟨k, f, t, v, k2, k3, k4, k5, k7, k8⟩ := canM_fields h
  obtain ⟨gf, gt, gv, gk⟩ := hx
  unfold OkM
  rw [f, t, v]
  refine ⟨gf, gt, gv, ?_⟩
  rcases gk with h1 | h6 | ⟨h2, g⟩ | ⟨h3, g⟩ | ⟨h4, g⟩ | ⟨h5, g⟩ | ⟨h7, g⟩ | ⟨h8, g⟩
  · exact .inl (k.trans h1)
  · exact .inr (.inl (k.trans h6))
  · obtain ⟨p, q, r⟩ := k2 (k.trans h2); rw [← p, ← q] at g; exact .inr (.inr (.inl ⟨k.trans h2, g⟩))
  · obtain ⟨p, q, r⟩ := k3 (k.trans h3); rw [← p, ← q, ← r] at g; exact .inr (.inr (.inr (.inl ⟨k.trans h3, g⟩)))
  · have p := k4 (k.trans h4); rw [← p] at g; exact .inr (.inr (.inr (.inr (.inl ⟨k.trans h4, g⟩))))
  · obtain ⟨p, q, r⟩ := k5 (k.trans h5); rw [← p, ← q, ← r] at g; exact .inr (.inr (.inr (.inr (.inr (.inl ⟨k.trans h5, g⟩)))))
  · obtain ⟨p, q, r, s⟩ := k7 (k.trans h7); rw [← p, ← q, ← r, ← s] at g; exact .inr (.inr (.inr (.inr (.inr (.inr (.inl ⟨k.trans h7, g⟩))))))
  · obtain ⟨p, q⟩ := k8 (k.trans h8); rw [← p, ← q] at g; exact .inr (.inr (.inr (.inr (.inr (.inr (.inr ⟨k.trans h8, g⟩))))))
theorem canM_canM (m : api_Msg) : canM (canM m) = canM m := by
  unfold canM
  by_cases h2 : m.Kind = 2
  · simp [h2, headOf]
  by_cases h3 : m.Kind = 3
  · simp [h3, headOf]
  by_cases h4 : m.Kind = 4
  · simp [h4, headOf]
  by_cases h5 : m.Kind = 5
  · simp [h5, headOf]
  by_cases h7 : m.Kind = 7
  · simp [h7, headOf]
  by_cases h8 : m.Kind = 8
  · simp [h8, headOf]
  · simp [h2, h3, h4, h5, h7, h8, headOf]
theorem ints_eq {K : Nat} {xs ys : List Int} (hK : xs.length < K) (hx : xs.length ≤ 100000000000000000) : slices_Equal_sint_int.f K xs ys = some (decide (xs = ys)) := by
  unfold slices_Equal_sint_int.f
  by_cases hl : xs.length = ys.length
  · rw [if_pos (by omega)]
    unfold slices_Equal_sint_int.L1
    have := eq_iter (R := fun a b : Int => decide (a = b)) (xs := xs) (ys := ys) hl (f := fun again v => slices_Equal_sint_int.B1 K xs ys (fun v => slices_Equal_sint_int.J1 K) again v) (fun ag i h h' => by
      unfold slices_Equal_sint_int.B1
      rw [if_pos (by omega), ix_get (by omega) (by simpa using h)]
      simp only [Option.bind_some]
      rw [ix_get (by omega) (by simpa using h')]
      simp only [Option.bind_some, Int.toNat_natCast, decide_eq_true_eq]
      rw [w64_succ (by omega) (by omega)]
      rfl) (fun ag => by
      unfold slices_Equal_sint_int.B1
      rw [if_neg (by omega)]
      rfl) xs.length 0 K (by omega) (by omega)
    rw [List.drop_zero, List.drop_zero, zip_all_eq hl] at this
    exact this
  · rw [if_neg (by omega)]
    have : decide (xs = ys) = false := by rw [decide_eq_false_iff_not]; intro h; exact hl (by rw [h])
    rw [this]
theorem entry_same (a b : api_Entry) : mach_SameEntry.f a b = some (decide (a = b)) := by
  obtain ⟨s, q, ⟨k, w, x, y, z⟩⟩ := a
  obtain ⟨s', q', ⟨k', w', x', y', z'⟩⟩ := b
  unfold mach_SameEntry.f bytes_Equal.f
  simp only [api_Entry.mk.injEq, api_Cmd.mk.injEq, Option.bind_some, beq_iff_eq]
  by_cases h1 : s = s' <;> by_cases h2 : q = q' <;> by_cases h3 : k = k' <;> by_cases h4 : w = w' <;> by_cases h5 : x = x' <;> by_cases h6 : y = y' <;> by_cases h7 : z = z' <;> simp [h1, h2, h3, h4, h5, h6, h7]
theorem alike_eq {x m : api_Msg} (hh : x.Kind = 7 → x.Have.length < 2000000 ∧ x.Need.length < 2000000) : mesg_alike.f 2000000 x m = some (decide (canM x = canM m)) := by
  unfold mesg_alike.f
  have no : ∀ {p : Prop}, (canM x = canM m → p) → ¬p → some false = some (decide (canM x = canM m)) := fun h hp => by
    congr 1; symm; rw [decide_eq_false_iff_not]; exact fun e => hp (h e)
  by_cases k : x.Kind = m.Kind
  · rw [if_pos k]
    by_cases f : x.From = m.From
    · rw [if_pos f]
      by_cases t : x.To = m.To
      · rw [if_pos t]
        by_cases v : x.View = m.View
        · rw [if_pos v]
          have hc : ∀ {p : Bool}, (canM x = canM m ↔ p = true) → some p = some (decide (canM x = canM m)) := fun {p} h => by
            congr 1
            cases p with
            | true => rw [h.2 rfl]; simp
            | false => symm; rw [decide_eq_false_iff_not]; intro e; exact absurd (h.1 e) (by simp)
          have bind1 : ∀ z : Option Bool, (Option.bind z fun t => some t) = z := fun z => by cases z <;> rfl
          have done : (canM x = canM m ↔ (x.Kind = 2 → x.Inst = m.Inst ∧ x.Len = m.Len ∧ x.Has = m.Has) ∧ (x.Kind = 3 → x.Members = m.Members ∧ x.Source = m.Source ∧ x.Len = m.Len) ∧ (x.Kind = 4 → x.At = m.At) ∧
              (x.Kind = 5 → x.At = m.At ∧ x.Total = m.Total ∧ x.Data = m.Data) ∧ (x.Kind = 7 → x.Hop = m.Hop ∧ x.Seq = m.Seq ∧ x.Have = m.Have ∧ x.Need = m.Need) ∧ (x.Kind = 8 → x.Index = m.Index ∧ x.Entry = m.Entry)) :=
            ⟨fun e => (canM_fields e).2.2.2.2, fun ⟨a, b, c, d, e, g⟩ => canM_congr k f t v a b c d e g⟩
          rw [bind1, show some (decide (canM x = canM m)) = some (decide _) from congrArg some (decide_eq_decide.2 done)]
          unfold mesg_fields.f
          by_cases h2 : x.Kind = 2
          · rw [if_pos h2]
            simp only [h2, Int.reduceEq, false_imp_iff, and_true, true_imp_iff]
            by_cases a1 : x.Inst = m.Inst <;> by_cases a2 : x.Len = m.Len <;> by_cases a3 : x.Has = m.Has <;> simp [a1, a2, a3]
          rw [if_neg h2]
          by_cases h3 : x.Kind = 3
          · rw [if_pos h3]
            simp only [h3, Int.reduceEq, false_imp_iff, and_true, true_imp_iff, true_and]
            by_cases a1 : x.Members = m.Members <;> by_cases a2 : x.Source = m.Source <;> by_cases a3 : x.Len = m.Len <;> simp [a1, a2, a3]
          rw [if_neg h3]
          by_cases h4 : x.Kind = 4
          · rw [if_pos h4]
            simp only [h4, Int.reduceEq, false_imp_iff, and_true, true_imp_iff, true_and]
            by_cases a1 : x.At = m.At <;> simp [a1]
          rw [if_neg h4]
          by_cases h5 : x.Kind = 5
          · rw [if_pos h5]
            simp only [h5, Int.reduceEq, false_imp_iff, and_true, true_imp_iff, true_and]
            unfold bytes_Equal.f
            by_cases a1 : x.At = m.At <;> by_cases a2 : x.Total = m.Total <;> by_cases a3 : x.Data = m.Data <;> simp [a1, a2, a3]
          rw [if_neg h5]
          by_cases h7 : x.Kind = 7
          · obtain ⟨g1, g2⟩ := hh h7
            rw [if_pos h7, ints_eq g1 (by omega), ints_eq g2 (by omega)]
            simp only [h7, Int.reduceEq, false_imp_iff, and_true, true_imp_iff, true_and]
            by_cases a1 : x.Hop = m.Hop <;> by_cases a2 : x.Seq = m.Seq <;> by_cases a3 : x.Have = m.Have <;> by_cases a4 : x.Need = m.Need <;> simp [a1, a2, a3, a4]
          rw [if_neg h7]
          by_cases h8 : x.Kind = 8
          · rw [if_pos h8, entry_same]
            simp only [h8, Int.reduceEq, false_imp_iff, true_imp_iff, true_and]
            by_cases a1 : x.Index = m.Index <;> by_cases a2 : x.Entry = m.Entry <;> simp [a1, a2]
          · rw [if_neg h8]
            simp [h2, h3, h4, h5, h7, h8]
        · rw [if_neg v]; exact no (fun e => (canM_fields e).2.2.2.1) v
      · rw [if_neg t]; exact no (fun e => (canM_fields e).2.2.1) t
    · rw [if_neg f]; exact no (fun e => (canM_fields e).2.1) f
  · rw [if_neg k]; exact no (fun e => (canM_fields e).1) k
theorem wire_len {m : api_Msg} (hd : m.Kind = 5 → m.Data.length ≤ 64) (hh : m.Kind = 7 → m.Have.length ≤ 7 ∧ m.Need.length ≤ 8) (he : m.Kind = 8 → m.Entry.Cmd.Key.length ≤ 2000000 ∧ m.Entry.Cmd.Val.length ≤ 2000000 ∧ m.Entry.Cmd.Old.length ≤ 2000000) : (wire m).length ≤ 210 ∨ (m.Kind = 8 ∧ (wire m).length ≤ 120 + m.Entry.Cmd.Key.length + m.Entry.Cmd.Val.length + m.Entry.Cmd.Old.length) := by
  have l4 := numsL_len [m.Kind, m.From, m.To, m.View]
  simp only [List.length_cons, List.length_nil] at l4
  unfold wire
  rw [List.length_append]
  unfold tailW
  split
  · have := numsL_len [m.Inst, m.Len, flagI m.Has]; simp only [List.length_cons, List.length_nil] at this; omega
  split
  · have := numsL_len [m.Members, m.Source, m.Len]; simp only [List.length_cons, List.length_nil] at this; omega
  split
  · have := numsL_len [m.At]; simp only [List.length_cons, List.length_nil] at this; omega
  split
  · rename_i k5
    have h1 := numsL_len [m.At, m.Total]; simp only [List.length_cons, List.length_nil] at h1
    have h2 := hd k5
    have h3 := enc_len9 (n := m.Data.length) (by omega)
    simp only [List.length_append]
    omega
  split
  · rename_i k7
    have h1 := numsL_len [m.Hop, m.Seq]; simp only [List.length_cons, List.length_nil] at h1
    obtain ⟨h2, h3⟩ := hh k7
    have h4 := enc_len9 (n := m.Have.length) (by omega)
    have h5 := enc_len9 (n := m.Need.length) (by omega)
    have h6 := numsL_len m.Have
    have h7 := numsL_len m.Need
    simp only [List.length_append]
    omega
  split
  · rename_i k8
    obtain ⟨h2, h3, h4⟩ := he k8
    have h1 := numsL_len [m.Index]; simp only [List.length_cons, List.length_nil] at h1
    have h5 := enc_len9 (n := m.Entry.Cmd.Key.length) (by omega)
    have h6 := enc_len9 (n := m.Entry.Cmd.Val.length) (by omega)
    have h7 := enc_len9 (n := m.Entry.Cmd.Old.length) (by omega)
    have h8 := numsL_len [m.Entry.Sess, m.Entry.Seq, m.Entry.Cmd.Kind, m.Entry.Cmd.Who]; simp only [List.length_cons, List.length_nil] at h8
    unfold entW cmdW
    simp only [List.length_append]
    omega
  · simp only [List.length_nil]; omega
structure Mild (m : api_Msg) : Prop where
  h : m.Have.length ≤ 1100000
  n : m.Need.length ≤ 1100000
  k : m.Entry.Cmd.Key.length ≤ 2000000
  v : m.Entry.Cmd.Val.length ≤ 2000000
  o : m.Entry.Cmd.Old.length ≤ 2000000
def beyondB (m : api_Msg) : Bool := decide ((m.Kind = 7 ∧ (7 < m.Have.length ∨ 8 < m.Need.length)) ∨ (m.Kind = 5 ∧ 64 < m.Data.length))
theorem beyond_eq (m : api_Msg) : mesg_beyond.f m = some (beyondB m) := by
  unfold mesg_beyond.f beyondB
  have c1 : ((m.Have.length : Int) > 7) ↔ 7 < m.Have.length := by omega
  have c2 : ((m.Need.length : Int) > 8) ↔ 8 < m.Need.length := by omega
  have c3 : ((m.Data.length : Int) > 64) ↔ 64 < m.Data.length := by omega
  simp only [c1, c2, c3]
  by_cases k7 : m.Kind = 7
  · by_cases h1 : 7 < m.Have.length <;> by_cases h2 : 8 < m.Need.length <;> by_cases h3 : 64 < m.Data.length <;> simp [h1, h2, h3, k7]
  · by_cases k5 : m.Kind = 5 <;> by_cases h1 : 7 < m.Have.length <;> by_cases h2 : 8 < m.Need.length <;> by_cases h3 : 64 < m.Data.length <;> simp [h1, h2, h3, k7, k5]
open Classical in
noncomputable def encM (m : api_Msg) : List UInt8 := if OkM m then wire m else []
theorem ok_small {m : api_Msg} (h : OkM m) : (m.Kind = 5 → m.Data.length ≤ 64) ∧ (m.Kind = 7 → m.Have.length ≤ 7 ∧ m.Need.length ≤ 8) ∧ (m.Kind = 8 → m.Entry.Cmd.Key.length ≤ 32 ∧ m.Entry.Cmd.Val.length ≤ 32 ∧ m.Entry.Cmd.Old.length ≤ 32) := by
  obtain ⟨_, _, _, gk⟩ := h
  rcases gk with h1 | h6 | ⟨h2, g⟩ | ⟨h3, g⟩ | ⟨h4, g⟩ | ⟨h5, g⟩ | ⟨h7, g⟩ | ⟨h8, g⟩
  · exact ⟨by omega, by omega, by omega⟩
  · exact ⟨by omega, by omega, by omega⟩
  · exact ⟨by omega, by omega, by omega⟩
  · exact ⟨by omega, by omega, by omega⟩
  · exact ⟨by omega, by omega, by omega⟩
  · exact ⟨by omega, by omega, by omega⟩
  · exact ⟨by omega, fun _ => ⟨g.2.2.1.1, g.2.2.2.1⟩, by omega⟩
  · exact ⟨by omega, by omega, fun _ => ⟨g.2.l1, g.2.l2, g.2.l3⟩⟩
theorem wire_pos (m : api_Msg) : 4 ≤ (wire m).length := by
  unfold wire
  rw [numsL_cons, numsL_cons, numsL_cons, numsL_cons]
  simp only [List.length_append]
  have h1 := enc_pos (held2 m.Kind)
  have h2 := enc_pos (held2 m.From)
  have h3 := enc_pos (held2 m.To)
  have h4 := enc_pos (held2 m.View)
  omega
theorem beyond_no {m : api_Msg} (h : beyondB m = true) : ¬OkM m := fun ok => by
  obtain ⟨h1, h2, _⟩ := ok_small ok
  unfold beyondB at h
  rw [decide_eq_true_eq] at h
  rcases h with ⟨k, g⟩ | ⟨k, g⟩
  · have := h2 k; omega
  · have := h1 k; omega
theorem encode_eq {m : api_Msg} (hm : Mild m) : mesg_Encode.f 2000000 m = some (encM m) := by
  unfold mesg_Encode.f
  rw [beyond_eq]
  simp only [Option.bind_some]
  cases hb : beyondB m with
  | true =>
    rw [if_pos rfl]
    unfold encM
    rw [if_neg (beyond_no hb)]
  | false =>
    rw [if_neg (by simp)]
    unfold beyondB at hb
    rw [decide_eq_false_iff_not] at hb
    have h5 : m.Kind = 5 → m.Data.length ≤ 64 := fun k => by
      apply Nat.le_of_not_lt; intro h; exact hb (.inr ⟨k, h⟩)
    have h7 : m.Kind = 7 → m.Have.length ≤ 7 ∧ m.Need.length ≤ 8 := fun k =>
      ⟨Nat.le_of_not_lt fun h => hb (.inl ⟨k, .inl h⟩), Nat.le_of_not_lt fun h => hb (.inl ⟨k, .inr h⟩)⟩
    have h8 : m.Kind = 8 → m.Entry.Cmd.Key.length ≤ 2000000 ∧ m.Entry.Cmd.Val.length ≤ 2000000 ∧ m.Entry.Cmd.Old.length ≤ 2000000 := fun _ => ⟨hm.k, hm.v, hm.o⟩
    have hw := wire_len h5 h7 h8
    rw [write_eq h5 h7 (fun k => by have := h8 k; omega)]
    simp only [Option.bind_some]
    rw [readM_eq (by have := hm.k; have := hm.v; have := hm.o; omega)]
    simp only [Option.bind_some]
    by_cases ok : OkM m
    · rw [read_wire ok]
      dsimp only
      rw [if_pos rfl]
      have hk := (canM_head m).1
      have hs := ok_small ok
      rw [alike_eq (fun k => by
        rw [hk] at k
        have := (canM_fields (canM_canM m)).2.2.2.2.2.2.2.2.1 (hk.trans k)
        obtain ⟨_, _, e1, e2⟩ := this
        rw [e1, e2]
        have := hs.2.1 k
        omega)]
      simp only [Option.bind_some]
      rw [if_pos (by rw [decide_eq_true_eq]; exact canM_canM m)]
      unfold encM
      rw [if_pos ok]
    · have he : encM m = [] := by unfold encM; rw [if_neg ok]
      rw [he]
      by_cases hr : (readM (wire m)).2 = true
      · rw [if_pos hr]
        obtain ⟨o1, o2, o3⟩ := readM_ok hr
        rw [alike_eq (fun k => by have := (ok_small o1).2.1 k; omega)]
        simp only [Option.bind_some]
        rw [if_neg]
        rw [decide_eq_true_eq]
        exact fun e => ok (OkM_congr e.symm o1)
      · rw [if_neg hr]
def decM (b : List UInt8) : api_Msg × Bool := if (readM b).2 = true then ((readM b).1, true) else (zmsg, false)
end Go.Gp
