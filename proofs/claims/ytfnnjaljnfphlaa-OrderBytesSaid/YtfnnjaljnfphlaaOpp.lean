/- Orders: each kind's reading, as one contract; order.Parse. -/
import Derived.Test.YtfnnjaljnfphlaaOdo
namespace Go.Proofs.Ytfnnjaljnfphlaa
open Go.RowKit
set_option maxRecDepth 100000
set_option maxHeartbeats 8000000
set_option linter.unusedSimpArgs false
set_option linter.unusedVariables false

/-- What a kind reads. -/
def kRd (k : Int) (s : Rs × Bool) : Or6 × (Rs × Bool) :=
  if k = 2 ∨ k = 3 then (⟨k, 0, 0, (rdRu s.1).1, pr0⟩, ((rdRu s.1).2, s.2))
  else if k = 4 then (⟨k, ((rn 1 s.1).1 : Int), 0, ru0, pr0⟩, ((rn 1 s.1).2, s.2))
  else if k = 5 then (⟨k, ((rn 1 s.1).1 : Int), ((rn 2 (rn 1 s.1).2).1 : Int), ru0, pr0⟩, ((rn 2 (rn 1 s.1).2).2, s.2))
  else if k = 6 then (⟨k, ((rn 4 s.1).1 : Int), 0, ru0, pr0⟩, ((rn 4 s.1).2, s.2))
  else if k = 7 then (⟨k, ((rn 4 s.1).1 : Int), ((rn 2 (rn 4 s.1).2).1 : Int), ru0, pr0⟩, ((rn 2 (rn 4 s.1).2).2, s.2))
  else if k = 8 then (⟨k, 0, 0, ru0, (rpF pr0 s).1⟩, (rpF pr0 s).2)
  else if k = 9 then (⟨k, ((rn 1 s.1).1 : Int), ((rn 1 (rn 1 s.1).2).1 : Int), ru0, pr0⟩, ((rn 1 (rn 1 s.1).2).2, s.2))
  else (⟨k, 0, 0, ru0, pr0⟩, s)
def OrAt (b : Nat) (w : World) (o : Or6) : Prop := ∃ bo A L c, Bk w b 53 (orC o A L c) ∧ OBk w bo A L o.r.os ∧ L ≤ c
theorem OBk.nil {w : World} {bo : Nat} {A : Option Addr} : OBk w bo A 0 [] := ⟨rfl, fun h => absurd h (Nat.lt_irrefl _)⟩
theorem OBk.ou {w : World} {bo L : Nat} {A : Option Addr} {os : List Out4} (h : OBk w bo A L os) : Ou w w.heap.size A L os := by
  refine ⟨by rw [flat_len, h.len]; omega, fun hL => ?_⟩
  obtain ⟨hA, j, hB⟩ := h.blk hL
  refine ⟨bo, 0, hA, hB.lt, fun i u hu => ?_⟩
  rw [Nat.zero_add, hB.cell]
  have hi : i < (os.flatMap outC).length := (List.getElem?_eq_some_iff.1 hu).1
  rw [List.getElem?_toArray, List.getElem?_append_left hi]
  exact hu
theorem reader_pi' (g gr base B : Nat) : PI 110 g 78 base (fun b => b ≠ g ∧ b ≠ gr ∧ B ≤ b) (RrS base B g gr) rnf (fun _ _ => True) (fun _ => 0) 100000 := reader_pi g gr base B
theorem kind_r (base B g gr b : Nat) (k : Int) (s : Rs × Bool) (w : World) (hk : 1 ≤ k ∧ k ≤ 9) (hs : RrS base B g gr w s) (hB : Bk w b 53 (orC ⟨k, 0, 0, ru0, pr0⟩ none 0 0)) (hf : b ≠ g ∧ b ≠ gr ∧ B ≤ b) (hb : base ≤ b) :
    Calls Try.prog (kfn k) #[.pointer (some ⟨b, 0, none⟩), .iface 110 (.pointer (some ⟨g, 0, none⟩))] w fun e w' => e = .returned (.tuple #[]) ∧ RrS base B g gr w' (kRd k s).2 ∧ OrAt b w' (kRd k s).1 ∧ Below base w w' := by
  have P := reader_pi' g gr base B
  obtain rfl | rfl | rfl | rfl | rfl | rfl | rfl | rfl | rfl : k = 1 ∨ k = 2 ∨ k = 3 ∨ k = 4 ∨ k = 5 ∨ k = 6 ∨ k = 7 ∨ k = 8 ∨ k = 9 := by omega
  · refine (hnone b _ w).mono ?_
    rintro e w' ⟨rfl, rfl⟩
    exact ⟨rfl, by simpa [kRd] using hs, ⟨0, none, 0, 0, by simpa [kRd] using hB, OBk.nil, Nat.le_refl _⟩, Below.refl _ _⟩
  · have H := hruled (naR_rule g) (meR_rule g) cf149 (b := b) (w := w) (Q := fun w' => RrS base B g gr w' ((rdRu s.1).2, s.2) ∧ OrAt b w' ⟨2, 0, 0, (rdRu s.1).1, pr0⟩ ∧ Below base w w') (rrule ((ruleParts_any P b 0 0 0 53 none (.int .i64 2) (.int .i64 0) (.int .i64 0) (.int .i64 0) (.int .i64 0) (.int .i64 0) (.int .i64 0) (.int .i64 0) ru0 s w.drew (by simp) hs hB OBk.nil (fun h => absurd h (Nat.lt_irrefl _)) (Nat.le_refl _) okr_r (by decide) hf hb).mono (by
      rintro e w' ⟨rfl, h1, hR, h2⟩
      rw [ruF_r] at h1 hR
      obtain ⟨bo, L, c, A, hB', hO, _, hL, _⟩ := hR.x
      exact ⟨rfl, h1, ⟨bo, A, L, c, hB', hO, hL⟩, undrew h2⟩)))
    refine H.mono ?_
    rintro e w' ⟨rfl, h1, h2, h3⟩
    exact ⟨rfl, by simpa [kRd] using h1, by simpa [kRd] using h2, h3⟩
  · have H := hruled (naR_rule g) (meR_rule g) cf149 (b := b) (w := w) (Q := fun w' => RrS base B g gr w' ((rdRu s.1).2, s.2) ∧ OrAt b w' ⟨3, 0, 0, (rdRu s.1).1, pr0⟩ ∧ Below base w w') (rrule ((ruleParts_any P b 0 0 0 53 none (.int .i64 3) (.int .i64 0) (.int .i64 0) (.int .i64 0) (.int .i64 0) (.int .i64 0) (.int .i64 0) (.int .i64 0) ru0 s w.drew (by simp) hs hB OBk.nil (fun h => absurd h (Nat.lt_irrefl _)) (Nat.le_refl _) okr_r (by decide) hf hb).mono (by
      rintro e w' ⟨rfl, h1, hR, h2⟩
      rw [ruF_r] at h1 hR
      obtain ⟨bo, L, c, A, hB', hO, _, hL, _⟩ := hR.x
      exact ⟨rfl, h1, ⟨bo, A, L, c, hB', hO, hL⟩, undrew h2⟩)))
    refine H.mono ?_
    rintro e w' ⟨rfl, h1, h2, h3⟩
    exact ⟨rfl, by simpa [kRd] using h1, by simpa [kRd] using h2, h3⟩
  · refine (htag P b 53 _ 0 s w (by simp) hs hB rfl trivial (by decide) hf hb).mono ?_
    rintro e w' ⟨rfl, h1, hB', _, h2⟩
    exact ⟨rfl, by simpa [kRd, rnf] using h1, ⟨0, none, 0, 0, by simpa [kRd, rnf, orC] using hB', OBk.nil, Nat.le_refl _⟩, h2⟩
  · refine (hask P b 53 _ 0 0 s w (by simp) hs hB rfl rfl trivial trivial (by decide) hf hb).mono ?_
    rintro e w' ⟨rfl, h1, hB', _, h2⟩
    exact ⟨rfl, by simpa [kRd, rnf] using h1, ⟨0, none, 0, 0, by simpa [kRd, rnf, orC] using hB', OBk.nil, Nat.le_refl _⟩, h2⟩
  · refine (hbarrier P b 53 _ 0 s w (by simp) hs hB rfl trivial (by decide) hf hb).mono ?_
    rintro e w' ⟨rfl, h1, hB', _, h2⟩
    exact ⟨rfl, by simpa [kRd, rnf] using h1, ⟨0, none, 0, 0, by simpa [kRd, rnf, orC] using hB', OBk.nil, Nat.le_refl _⟩, h2⟩
  · refine (hdone P b 53 _ 0 0 s w (by simp) hs hB rfl rfl trivial trivial (by decide) hf hb).mono ?_
    rintro e w' ⟨rfl, h1, hB', _, h2⟩
    exact ⟨rfl, by simpa [kRd, rnf] using h1, ⟨0, none, 0, 0, by simpa [kRd, rnf, orC] using hB', OBk.nil, Nat.le_refl _⟩, h2⟩
  · have H := hprobed (naR_probe g) (meR_probe g) cf148 (b := b) (w := w) (Q := fun w' => RrS base B g gr w' (rpF pr0 s).2 ∧ OrAt b w' ⟨8, 0, 0, ru0, (rpF pr0 s).1⟩ ∧ Below base w w') ((rprobe base B g gr b 53 ⟨8, 0, 0, ru0, pr0⟩ none 0 0 s w.drew hs hB hf (by decide) hb).mono (by
      rintro e w' ⟨rfl, h1, hB', _, h2⟩
      exact ⟨rfl, h1, ⟨0, none, 0, 0, hB', OBk.nil, Nat.le_refl _⟩, undrew h2⟩))
    refine H.mono ?_
    rintro e w' ⟨rfl, h1, h2, h3⟩
    exact ⟨rfl, by simpa [kRd] using h1, by simpa [kRd] using h2, h3⟩
  · refine (hport P b 53 _ 0 0 s w (by simp) hs hB rfl rfl trivial trivial (by decide) hf hb).mono ?_
    rintro e w' ⟨rfl, h1, hB', _, h2⟩
    exact ⟨rfl, by simpa [kRd, rnf] using h1, ⟨0, none, 0, 0, by simpa [kRd, rnf, orC] using hB', OBk.nil, Nat.le_refl _⟩, h2⟩
end Go.Proofs.Ytfnnjaljnfphlaa
