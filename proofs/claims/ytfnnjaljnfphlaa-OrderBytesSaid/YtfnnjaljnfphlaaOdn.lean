/- Orders: what the writer makes of a rule, what the reader makes of none. Plain. -/
import Derived.Test.YtfnnjaljnfphlaaOdl
namespace Go.Proofs.Ytfnnjaljnfphlaa
open Go.RowKit
set_option maxRecDepth 100000
set_option maxHeartbeats 4000000
set_option linter.unusedSimpArgs false
set_option linter.unusedVariables false

def wnf (z : Nat) (x : Int) (l : List UInt8) : Int × List UInt8 := (x, l ++ be z x.toNat)
def wok (z : Nat) (x : Int) : Prop := 0 ≤ x ∧ x < ((256 ^ z : Nat) : Int)
def rnf (z : Nat) (_ : Int) (s : Rs × Bool) : Int × Rs × Bool := (((rn z s.1).1 : Int), ((rn z s.1).2, s.2))
theorem be1 (c : UInt8) : be 1 c.toNat = [c] := by
  have := be_num [c]
  simpa [num] using this
theorem hdV_w (c0 c1 c2 : UInt8) (l : List UInt8) : hdV wnf c0 c1 c2 l = ((c0, c1, c2), l ++ [c0, c1, c2]) := by
  simp [hdV, wnf, be1]
theorem outF_w (o : Out4) (l : List UInt8) : outF wnf o l = (o, l ++ outBy o) := by
  obtain ⟨p, x, y, z⟩ := o
  have e1 : x + 1 - 1 = x := by omega
  have e2 : y + 1 - 1 = y := by omega
  have e3 : z + 1 - 1 = z := by omega
  simp only [outF, wnf, outBy, e1, e2, e3, List.append_assoc]
theorem outsF_w (os : List Out4) : ∀ l, outsF wnf os l = (os, l ++ os.flatMap outBy) := by
  induction os with
  | nil => intro l; simp [outsF]
  | cons o os ih => intro l; simp [outsF, outF_w, ih]
theorem ruF_w (r : Ru) (l : List UInt8) : ruF wnf r l = (r, l ++ ruBy r) := by
  obtain ⟨k, pr, to_, po, ⟨ve, mp, b0, b1, b2, i0, i1, i2⟩, os⟩ := r
  by_cases hk : k = 1
  · subst hk
    have e1 : mp + 1 - 1 = mp := by omega
    simp [ruF, wnf, ruBy, mkBy, hdV_w, outsF_w, manyO, e1, be1]
  · simp only [ruF, wnf, ruBy, hk, if_false, List.append_nil, List.append_assoc]

theorem okr_w {r : Ru} (h : ruB r = true) : OkR wok r := by
  obtain ⟨k, pr, to_, po, ⟨ve, mp, b0, b1, b2, i0, i1, i2⟩, os⟩ := r
  have hu : ∀ c : UInt8, wok 1 (c.toNat : Int) := fun c => by
    have := c.toNat_lt
    simp only [wok]; omega
  have hz : OkO wok (0, 0, 0, 0) := by simp [OkO, wok]
  by_cases hk : k = 2
  · subst hk
    simp only [ruB, mkZ, if_true, Bool.and_eq_true, inB_iff, beq_iff_eq] at h
    obtain ⟨⟨⟨⟨h1, h2⟩, h3⟩, hv, hm, _⟩, h5⟩ := h
    have h6 := List.eq_nil_of_length_eq_zero h5
    subst h6 h3 hv hm
    refine ⟨?_, ?_, ?_, ?_, ?_, ?_, ?_, hu, ?_, ?_, hz, ?_⟩
    all_goals first | (simp only [wok]; omega) | simp
  · simp only [ruB, hk, if_false, mkB, Bool.and_eq_true, inB_iff, beq_iff_eq, decide_eq_true_eq, List.all_eq_true, outB4] at h
    obtain ⟨⟨⟨⟨⟨⟨h1, h2⟩, h3⟩, h4⟩, h5⟩, h6⟩, ⟨⟨⟨h7, h8⟩, _⟩, _⟩, _⟩ := h
    subst h1 h5 h6
    refine ⟨?_, ?_, ?_, ?_, ?_, ?_, ?_, hu, ?_, ?_, hz, ?_⟩
    · simp only [wok]; omega
    · simp only [wok]; omega
    · simp only [wok]; omega
    · simp only [wok]; omega
    · simp only [wok]; omega
    · simp only [wok]; omega
    · simp only; omega
    · simp only [wok]; omega
    · intro o ho
      have := h3 o ho
      simp only [OkO, wok]
      omega
    · simp only; omega

theorem hdV_r (c0 c1 c2 : UInt8) (s : Rs × Bool) : hdV rnf c0 c1 c2 s = ((rdH s.1).1, ((rdH s.1).2, s.2)) := by
  simp [hdV, rnf, rdH]
theorem outF_r (o : Out4) (s : Rs × Bool) : outF rnf o s = ((rdOut s.1).1, ((rdOut s.1).2, s.2)) := by
  simp [outF, rnf, rdOut]
theorem outsF_r (os : List Out4) : ∀ s, outsF rnf os s = ((rdOuts os.length s.1).1, ((rdOuts os.length s.1).2, s.2)) := by
  induction os with
  | nil => intro s; simp [outsF, rdOuts]
  | cons o os ih => intro s; simp [outsF, outF_r, ih, rdOuts]
theorem manyO_r (n : Nat) : (manyO (n : Int) []).length = n := by
  unfold manyO
  split
  · rename_i h; simp only [List.length_nil] at h ⊢; omega
  · simp
theorem ruF_r (s : Rs × Bool) : ruF rnf ru0 s = ((rdRu s.1).1, ((rdRu s.1).2, s.2)) := by
  by_cases h : (rn 1 s.1).1 = 1
  · have h' : (((rn 1 s.1).1 : Nat) : Int) = 1 := by omega
    have hh : (rnf 1 ru0.k s).1 = 1 := h'
    simp only [ruF, if_pos hh, hdV_r, outsF_r]
    simp only [rnf, manyO_r, show ru0.os = [] from rfl]
    simp only [rdRu, rdMk, h, if_pos]
  · have h' : ¬ (((rn 1 s.1).1 : Nat) : Int) = 1 := by omega
    have hh : ¬ (rnf 1 ru0.k s).1 = 1 := h'
    simp only [ruF, if_neg hh, rdRu, if_neg h]
    rfl
theorem okr_r : OkR (fun _ _ => True) ru0 := by
  refine ⟨trivial, trivial, trivial, trivial, trivial, trivial, ?_, fun _ => trivial, trivial, ?_, ?_, ?_⟩
  · decide
  · intro o ho; cases ho
  · simp [OkO]
  · decide
end Go.Proofs.Ytfnnjaljnfphlaa
