/- What the statements say, of the plain functions. -/
import Derived.Test.YtploijfgnnkddaaGreatDefs
import Derived.Test.YtploijfgnnkddaaGreatLe
import Derived.Test.YtploijfgnnkddaaGreatThInts
import Derived.Test.YtploijfgnnkddaaGreatThPack
import Derived.Test.YtploijfgnnkddaaGreatThMesg
import Derived.Test.YtploijfgnnkddaaGreatThMesg2
import Derived.Test.YtploijfgnnkddaaGreatThMesg3
import Derived.Test.YtploijfgnnkddaaGreatThMesg4
import Derived.Test.YtploijfgnnkddaaGreatThMesg5
import Derived.Test.YtploijfgnnkddaaGreatThMesg6
import Derived.Test.YtploijfgnnkddaaGreatThMsg
import Derived.Test.YtploijfgnnkddaaGreatThMesg7
import Derived.Test.YtploijfgnnkddaaGreatThMesg8
import Derived.Test.YtploijfgnnkddaaGreatThMesgS
import Derived.Test.YtploijfgnnkddaaGreatGpCrc
import Derived.Test.YtploijfgnnkddaaGreatThCrc
import Derived.Test.YtploijfgnnkddaaGreatThFram
import Derived.Test.YtploijfgnnkddaaGreatThPack1
import Derived.Test.YtploijfgnnkddaaGreatThMesg9
import Derived.Test.YtploijfgnnkddaaGreatThMesg10
import Derived.Test.YtploijfgnnkddaaGreatThRows
import Derived.Test.YtploijfgnnkddaaGreatThMach
import Derived.Test.YtploijfgnnkddaaGreatThMach2
import Derived.Test.YtploijfgnnkddaaGreatThMach3
import Derived.Test.YtploijfgnnkddaaGreatThMach4
import Derived.Test.YtploijfgnnkddaaGreatThBlob
import Derived.Test.YtploijfgnnkddaaGreatThBlob2
import Derived.Test.YtploijfgnnkddaaGreatThStep
import Derived.Test.YtploijfgnnkddaaGreatThState
import Derived.Test.YtploijfgnnkddaaGreatThXfer
import Derived.Test.YtploijfgnnkddaaGreatThXfer2
import Derived.Test.YtploijfgnnkddaaGreatThAsk
/- A state is asked for, served and taken as the document says: the law XferPlays. -/
namespace Go.Gp
open Go
def A5f (x : L6) : Prop := O0 x.Kind ∧ O0 x.Who ∧ (x.Key.length ≤ 1048576 ∧ ∀ z ∈ x.Key, True) ∧ (x.Val.length ≤ 1048576 ∧ ∀ z ∈ x.Val, True) ∧ (x.Old.length ≤ 1048576 ∧ ∀ z ∈ x.Old, True)
def A4B (x : B8) : Prop := O0 x.Sess ∧ O0 x.Seq ∧ A5f x.Cmd
def A5e (x : C3) : Prop := O0 x.Kind ∧ O0 x.From ∧ O0 x.To ∧ O0 x.View ∧ O0 x.Inst ∧ O0 x.Len ∧ True ∧ O0 x.Members ∧ O0 x.Source ∧ O0 x.At ∧ O0 x.Total ∧ (x.Data.length ≤ 1048576 ∧ ∀ z ∈ x.Data, True) ∧ O0 x.Hop ∧ O0 x.Seq ∧ (x.Have.length ≤ 1048576 ∧ ∀ z ∈ x.Have, O0 z) ∧ (x.Need.length ≤ 1048576 ∧ ∀ z ∈ x.Need, O0 z) ∧ O0 x.Index ∧ A4B x.Entry
def rtF (f : A1z) : Int := if f.2.2.2.2.2.1 = true then f.2.2.2.2.1 else -1
structure IvF (f : A1z) : Prop where
  t : f.2.2.2.2.2.1 = true → 0 ≤ f.2.2.2.2.1
  d : f.2.2.2.2.2.2 = decide (f.2.2.2.2.2.1 = true ∧ (f.2.2.2.1.length : Int) = f.2.2.2.2.1)
abbrev B2K := Int × Int × Int × Int × List UInt8
def A4r (f : A1z) : B2K := (f.1, f.2.1, f.2.2.1, rtF f, f.2.2.2.1)
theorem A9W {K : Nat} (hK : K = 2000000000) {f : A1z} {m : C3} (hf : IvF f) (hb : (f.2.2.2.1 ++ m.Data).length < K) (hb2 : (f.2.2.2.1 ++ m.Data).length ≤ 1000000000) :
    H2.f K f.1 f.2.1 f.2.2.1 (rtF f) f.2.2.2.1 m = some ((A0u f m).1, A4r (A0u f m).2) := by
  obtain ⟨v, me, s, b, tot, beg, dn⟩ := f; obtain ⟨ht, hd⟩ := hf; simp only at ht hd hb hb2 ⊢; have hl := hb2; rw [List.length_append] at hl; have no : ¬A3X v s b tot beg dn m → H2.J1 K v me s (rtF (v, me, s, b, tot, beg, dn)) b m true = some ((A0u (v, me, s, b, tot, beg, dn) m).1, A4r (A0u (v, me, s, b, tot, beg, dn) m).2) := fun h => by
    rw [B0P h]; rfl
  have yes : A3X v s b tot beg dn m → H2.J1 K v me s (rtF (v, me, s, b, tot, beg, dn)) b m false = some ((A0u (v, me, s, b, tot, beg, dn) m).1, A4r (A0u (v, me, s, b, tot, beg, dn) m).2) := fun h => by
    have hA := h.2.2.2.2.1; have hT := h.2.2.2.2.2.2.1; unfold H2.J1 A0u; rw [if_neg (by simp), if_pos h, R6 (by simp only [List.length_nil]; omega), List.nil_append]; simp only [Option.bind_some]; rw [R6 (by omega)]; simp only [Option.bind_some]
    by_cases hlt : ((b ++ m.Data).length : Int) < m.Total
    · rw [if_neg (by omega), if_pos hlt]; rfl
    · rw [if_pos (by rw [List.length_append] at hlt ⊢; omega), if_neg hlt, A4l hK hb hb2]; simp only [Option.bind_some]
      cases hq : (A1u (b ++ m.Data)).2 with
      | true => rw [if_pos rfl, if_pos rfl]; rfl
      | false => rw [if_neg (by simp), if_neg (by simp)]; rfl
  unfold H2.f
  by_cases h1 : m.Kind = 5
  · rw [if_pos h1]
    by_cases h2 : m.View = v
    · rw [if_pos h2]
      by_cases h3 : m.From = s
      · rw [if_pos h3]
        by_cases h4 : m.At = (b.length : Int)
        · rw [if_pos h4]
          by_cases h5 : (m.Data.length : Int) = 0
          · rw [if_pos h5]; exact no (fun g => g.2.2.2.2.2.1 (by omega))
          · rw [if_neg h5, T9 (by omega)]
            cases beg with
            | false =>
              have hdn : dn = false := by rw [hd]; exact decide_eq_false (by simp)
              rw [if_neg (show ¬(rtF (v, me, s, b, tot, false, dn) ≥ 0) by unfold rtF; simp)]
              by_cases h6 : m.Total < m.At + (m.Data.length : Int)
              · rw [decide_eq_true h6]; exact no (fun g => by have := g.2.2.2.2.2.2.1; omega)
              · rw [decide_eq_false h6]; exact yes ⟨hdn, h1, h2, h3, h4, by omega, by omega, fun g => by cases g⟩
            | true =>
              have hr : rtF (v, me, s, b, tot, true, dn) = tot := rfl; have ht := ht rfl; rw [if_pos (by rw [hr]; omega), hr]
              by_cases h7 : m.Total = tot
              · rw [if_pos h7]
                by_cases h8 : (b.length : Int) = tot
                · rw [if_pos h8, ← hr]; exact no (fun g => by have := g.1; rw [hd, decide_eq_true ⟨rfl, h8⟩] at this; cases this)
                · have hdn : dn = false := by rw [hd]; exact decide_eq_false (fun g => h8 g.2)
                  rw [if_neg h8]
                  by_cases h6 : m.Total < m.At + (m.Data.length : Int)
                  · rw [decide_eq_true h6, ← hr]; exact no (fun g => by have := g.2.2.2.2.2.2.1; omega)
                  · rw [decide_eq_false h6, ← hr]; exact yes ⟨hdn, h1, h2, h3, h4, by omega, by omega, fun _ => by rw [h7]⟩
              · rw [if_neg h7, ← hr]; exact no (fun g => h7 (by rw [g.2.2.2.2.2.2.2 rfl]))
        · rw [if_neg h4]; exact no (fun g => h4 g.2.2.2.2.1)
      · rw [if_neg h3]; exact no (fun g => h3 g.2.2.2.1)
    · rw [if_neg h2]; exact no (fun g => h2 g.2.2.1)
  · rw [if_neg h1]; exact no (fun g => h1 g.2.1)
theorem A9X {f : A1z} (hf : IvF f) (m : C3) : IvF (A0u f m).2 ∧ (A0u f m).2.1 = f.1 ∧ (A0u f m).2.2.1 = f.2.1 ∧ (A0u f m).2.2.2.1 = f.2.2.1 ∧ (A0u f m).2.2.2.2.1.length ≤ f.2.2.2.1.length + m.Data.length := by
  obtain ⟨v, me, s, b, tot, beg, dn⟩ := f; unfold A0u; simp only; split
  · rename_i g
    have g1 := g.1; have hA := g.2.2.2.2.1; have hT := g.2.2.2.2.2.2.1; split
    · rename_i hlt
      rw [List.length_append] at hlt; refine ⟨⟨fun _ => by simp only; omega, ?_⟩, rfl, rfl, rfl, by simp⟩; simp only [g1]; symm; exact decide_eq_false (fun q => by have := q.2; rw [List.length_append] at this; omega)
    · rename_i hlt
      rw [List.length_append] at hlt; split
      · refine ⟨⟨fun _ => by simp only; omega, ?_⟩, rfl, rfl, rfl, by simp⟩; simp only; symm; exact decide_eq_true ⟨trivial, by rw [List.length_append]; omega⟩
      · exact ⟨⟨(fun h => by cases h), by simp⟩, rfl, rfl, rfl, by simp⟩
  · exact ⟨hf, rfl, rfl, rfl, by simp only; omega⟩
theorem B0v {K : Nat} (hK : K = 2000000000) {f : A1z} (hf : IvF f) (hb : f.2.2.2.1.length < K) (hb2 : f.2.2.2.1.length ≤ 1000000000) : L8.f K (A4r f).1 (A4r f).2.1 (A4r f).2.2.1 (A4r f).2.2.2.1 (A4r f).2.2.2.2 = some (A3v f) := by
  obtain ⟨v, me, s, b, tot, beg, dn⟩ := f; obtain ⟨ht, hd⟩ := hf; simp only at ht hd hb hb2; have no : L8.J1 K b true = some (V5, false) := rfl; unfold A3v A4r; simp only; unfold L8.f
  cases beg with
  | false =>
    have hdn : dn = false := by rw [hd]; exact decide_eq_false (by simp)
    subst hdn; rw [if_pos (show rtF (v, me, s, b, tot, false, false) < 0 by unfold rtF; simp), no, if_neg (by simp)]
  | true =>
    have hr : rtF (v, me, s, b, tot, true, dn) = tot := rfl; have ht := ht rfl; rw [hr, if_neg (by omega)]
    by_cases h8 : (b.length : Int) = tot
    · rw [show ((b.length : Int) != tot) = false by rw [bne_eq_false_iff_eq]; exact h8, hd, decide_eq_true ⟨rfl, h8⟩, if_pos rfl]; unfold L8.J1; rw [if_neg (by simp), A4l hK hb hb2]
      rfl
    · rw [show ((b.length : Int) != tot) = true by rw [bne_iff_ne]; exact h8, no, hd, decide_eq_false (fun q => h8 q.2), if_neg (by simp)]
def mkR (f : A1z) : I9 := ⟨f.1, f.2.1, f.2.2.1, rtF f, f.2.2.2.1⟩
abbrev AgT := Int × R2 × I9 → Option Unit
theorem B0k {K : Nat} (hK : K = 2000000000) {f : A1z} (hf : IvF f) {ag : AgT} {i : Nat} (hi : i < 120) (hfl : f.2.2.2.1.length ≤ i * 1048576)
    (hag : ∀ f' : A1z, IvF f' → f'.1 = f.1 → f'.2.1 = f.2.1 → f'.2.2.1 = f.2.2.1 → f'.2.2.2.1.length ≤ (i + 1) * 1048576 → Sat (ag (((i + 1 : Nat) : Int), mkF f', mkR f')) (fun _ => True)) (m : C3) (hm : m.Data.length ≤ 1048576) :
    Sat (A3.J5 K (mkF f) (mkR f) ag (i : Int) m) (fun _ => True) := by
  have hK2 : 1000000000 ≤ K := by rw [hK]; decide
  obtain ⟨h1, h2, h3, h4, h5⟩ := A9X hf m; have hl : (f.2.2.2.1 ++ m.Data).length ≤ (i + 1) * 1048576 := by rw [List.length_append]; omega
  have hl2 : (A0u f m).2.2.2.2.1.length ≤ (i + 1) * 1048576 := by omega
  have hlim : (i + 1) * 1048576 ≤ 125829120 := by omega
  unfold A3.J5; refine E4 (A5T hK (f := f) (m := m) (by omega) (by omega)) (E4 (A9W hK hf (by omega) (by omega)) (A2q rfl ?_)); refine E4 (A6m hK (f := (A0u f m).2) (by omega) (by omega)) (E4 (B0v hK h1 (by omega) (by omega)) (A2q rfl ?_)); have hsm : A3I (A3v (A0u f m).2).1 := by
    unfold A3v; split
    · exact A8W _
    · exact A4D
  refine E4 (A9k (by omega) hsm) ?_; unfold A3.J6; refine A1L (by simp) ?_; rw [Q2 (by omega)]; exact hag (A0u f m).2 h1 h2 h3 h4 hl2
theorem A3.pure (x0 : List Int) (x1 x2 : Int) (x3 : List Int) (x4 : List C3) {o0 o1 o2 o3 : Prop} (_ : o0) (_ : o1) (_ : o2) (_ : o3) (h4 : x4.length ≤ 1048576 ∧ ∀ z ∈ x4, A5e z) : ∃ K r, A3.f K x0 x1 x2 x3 x4 = some r := by
  obtain ⟨K, hK⟩ : ∃ K, K = 2000000000 := ⟨_, rfl⟩; have hK2 : 1000000000 ≤ K := by rw [hK]; decide
  refine ⟨K, B0b ?_⟩; unfold A3.f; refine A0a (A9Y hK x0 x1 x2) (fun s hs => ?_); refine E4 (A4k hK (A4Q hs)) ?_; have hlen := A9l hs; have hsl := A3N (stW s); obtain ⟨t, ht⟩ : ∃ t, A1K (stW s) = t := ⟨_, rfl⟩; rw [ht] at hsl ⊢; clear ht; refine E4 A9B (E4 (v := (8, 1, 2, -1, [])) rfl ?_)
  refine A1b (fun v : Int × R2 × I9 => (120 - v.1).toNat)
    (fun v => ∃ (i : Nat) (f : A1z), v = ((i : Int), mkF f, mkR f) ∧ i ≤ 120 ∧ IvF f ∧ f.1 = 8 ∧ f.2.1 = 1 ∧ f.2.2.1 = 2 ∧ f.2.2.2.1.length ≤ i * 1048576) ?_ K _ ⟨0, A0d, rfl, by omega, ⟨(fun h => by cases h), rfl⟩, rfl, rfl, rfl, by simp [A0d]⟩ (by simp only; omega)
  rintro _ ⟨i, f, rfl, hi, hf, f1, f2, f3, hfl⟩ ag hag; show Sat (A3.B1 K x3 t x4 _ ag (i : Int) (mkF f) (mkR f)) _; unfold A3.B1; have hend : Sat (A3.J2 K (mkR f) (mkF f) x3 (i : Int) t ag x4 (fun _ => A3.J1 K) false) (fun _ => True) := by
    unfold A3.J2 A3.J1; exact A1L (by simp) (E4 (B2i hK) (O4 trivial))
  refine J9 (fun hlt => ?_) (fun _ => hend)
  by_cases h120 : (i : Int) < 120
  · rw [decide_eq_true h120]; have hi2 : i < 120 := by omega
    have j5 := fun m hm => B0k hK hf (ag := ag) hi2 hfl (fun f' q1 q2 q3 q4 q5 => hag _ ⟨i + 1, f', rfl, by omega, q1, q2.trans f1, q3.trans f2, q4.trans f3, q5⟩ (by simp only; omega)) m hm; obtain ⟨a, ha⟩ : ∃ a, ix x3 (i : Int) = some a := ⟨_, O7 (by omega) (by omega)⟩
    -- what is served, turned, and taken
    have j3 : ∀ at_ : Int, O0 at_ → Sat (A3.J3 K t (Y1 f) x3 (i : Int) (mkF f) (mkR f) ag x4 at_) (fun _ => True) := fun at_ hat => by
      unfold A3.J3; obtain ⟨q, hq⟩ : ∃ q : C3, q = ⟨(Y1 f).Kind, (Y1 f).From, (Y1 f).To, (Y1 f).View, (Y1 f).Inst, (Y1 f).Len, (Y1 f).Has, (Y1 f).Members, (Y1 f).Source, at_, (Y1 f).Total, (Y1 f).Data, (Y1 f).Hop, (Y1 f).Seq, (Y1 f).Have, (Y1 f).Need, (Y1 f).Index, (Y1 f).Entry⟩ := ⟨_, rfl⟩; have hqa : q.At = at_ := by rw [hq]
      have hqo : A5d q := by
        obtain ⟨g1, g2, g3, g4, g5, g6, g7⟩ := A9S f1 f2 f3; rw [hq]; exact ⟨g1, g2, g3, g4, g5, g6, g7⟩
      rw [← hq]; refine E4 (A6x hK (by omega) hqo (by rw [hqa]; exact hat)) (E4 (A8A hK (by omega) hqo (by rw [hqa]; exact hat)) (A2q rfl ?_)); obtain ⟨r1, r2, r3⟩ := A7S t q; refine E4 (A6e (by omega) r1 r2) ?_; obtain ⟨sv, hsv⟩ : ∃ sv, A2d t q = sv := ⟨_, rfl⟩; rw [hsv] at r3 ⊢; unfold A3.J4; refine A1L (by simp) (E4 ha ?_); refine J9 (fun _ => j5 _ (by simp only; omega)) (fun _ => ?_); refine J9 (fun _ => j5 _ (by simp only; omega)) (fun _ => ?_); refine J9 (fun _ => j5 _ (by simp only; omega)) (fun _ => ?_); refine J9 (fun _ => ?_) (fun _ => ?_)
      · refine J9 (fun hd => ?_) (fun _ => j5 _ (by omega)); refine E4 (O7 (by omega) (by simp only [Int.toNat_zero]; omega)) (E4 (A1f ⟨by omega, by omega, by omega⟩) (E4 (R6 ?_) (j5 _ ?_)))
        · simp only [List.length_singleton, List.length_drop, List.length_take]; omega
        · simp only [List.length_append, List.length_singleton, List.length_drop, List.length_take]; omega
      refine J9 (fun _ => j5 _ (by simp)) (fun _ => ?_); refine J9 (fun _ => ?_) (fun _ => ?_)
      · refine J9 (fun hx => ?_) (fun _ => j5 _ (by omega)); have hx2 : i < x4.length := by omega
        have hok := h4.2 x4[i] (List.getElem_mem _); refine E4 (O7 (by omega) (by rw [Int.toNat_natCast]; exact hx2)) (j5 _ ?_); simp only [Int.toNat_natCast]; obtain ⟨_, _, _, _, _, _, _, _, _, _, _, hd, _⟩ := hok; exact hd.1
      exact J9 (fun _ => j5 _ (by simp only; omega)) (fun _ => j5 _ (by omega))
    unfold A3.J2; have hask : Z4.f (mkR f).v (mkR f).me (mkR f).source (mkR f).total (mkR f).b = some (Y1 f) := rfl; have hsame : T8.f K (Y1 f) (Y1 f) = some () := A6e (by omega) rfl rfl; refine A2q rfl (E4 hask (E4 (A9T f) (E4 hsame (E4 ha ?_)))); refine J9 (fun _ => E4 ha (j3 _ ?_)) (fun _ => j3 _ ?_)
    · have hb := A1o (shr .i64 a 4) 4095 12 rfl (by decide); unfold O0; omega
    · show O0 ((f.2.2.2.1.length : Nat) : Int); unfold O0; omega
  · rw [decide_eq_false h120]; exact hend
end Go.Gp
