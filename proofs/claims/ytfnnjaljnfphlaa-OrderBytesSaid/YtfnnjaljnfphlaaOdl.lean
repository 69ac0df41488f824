/- slices.Clone of outputs. -/
import Derived.Test.YtfnnjaljnfphlaaOdj
namespace Go.Proofs.Ytfnnjaljnfphlaa
open Go.RowKit
set_option maxRecDepth 100000
set_option maxHeartbeats 8000000
set_option linter.unusedSimpArgs false
set_option linter.unusedVariables false

theorem outC_one (l : List Out4) : ∀ u ∈ l.flatMap outC, u.oneCell' = true := by
  intro u hu
  obtain ⟨x, _, hx⟩ := List.mem_flatMap.1 hu
  simp only [outC, List.mem_cons, List.not_mem_nil, or_false] at hx
  rcases hx with rfl | rfl | rfl | rfl <;> rfl
theorem obk_of_own {w : World} {B L : Nat} {v : Value} {os : List Out4} (h : w.ownsRow B 65 4 v L (os.flatMap outC)) (hl : os.length = L) : ∃ bo A c, v = .slice A L c ∧ OBk w bo A L os ∧ (0 < L → B ≤ bo) ∧ L ≤ c := by
  rcases h.2 with ⟨hv, h0⟩ | ⟨g, cap, cur, hv, hg, hh, hc, hm, hs, ht⟩
  · subst h0
    exact ⟨0, none, 0, hv, ⟨hl, fun h => absurd h (Nat.lt_irrefl _)⟩, fun h => absurd h (Nat.lt_irrefl _), Nat.le_refl _⟩
  · refine ⟨g, _, cap, hv, ⟨hl, fun _ => ⟨rfl, cur.toList.drop (L * 4), ?_⟩⟩, fun _ => hg, hc⟩
    rw [← ht, List.take_append_drop]
    exact hh
theorem oclone (A : Option Addr) (L c : Nat) (os : List Out4) (w : World) (hl : Ou w w.heap.size A L os) (hn : L ≤ 1000) :
    Calls Try.prog 74 #[.slice A L c] w fun e w' => ∃ bo A' c', e = .returned (.slice A' L c') ∧ OBk w' bo A' L os ∧ (0 < L → w.heap.size ≤ bo) ∧ L ≤ c' ∧ Below w.heap.size w w' := by
  obtain ⟨i0, hi0, hz0, hz1, hz2⟩ := info_parts info65
  have hlen := Lib.hid hl.len
  have qT : ∀ (w : World) (a : Option Addr) (n c n' c' : Nat), (binOp .eql 49 (.slice a n c) (.slice none n' c')).run Try.prog w = .ok (.bool a.isNone) w := fun w a n c n' c' => Lib.run_eql_slice_nil w _ _ a n c n' c' Try.underlying49
  rcases A with _ | ad
  · have h0 : L = 0 := by
      rcases Nat.eq_zero_or_pos L with h0 | h0
      · exact h0
      · obtain ⟨b, off, h, _⟩ := hl.2 h0
        cases h
    subst h0
    clear hl
    go_enter Try.func74, Try.ntmps74
    go_wp2
    go_ret
    exact ⟨0, none, 0, rfl, ⟨hlen.out, fun h => absurd h (Nat.lt_irrefl _)⟩, fun h => absurd h (Nat.lt_irrefl _), Nat.le_refl _, Below.refl _ _⟩
  · go_enter Try.func74, Try.ntmps74
    go_wp2_with (at_builtin; refine wpList_append_rd _ rfl _ _ _ rfl w.heap.size 65 i0 _ 4 32 Try.underlying49 hi0 hz0 hz1 hz2 rfl (by omega) (.slice (some ⟨w.heap.size, 0, none⟩) 0 0) 0 [] rfl (World.ownsRow_made w #[] 0 (Nat.le_refl _) (by unfold maxLen; omega) rfl) w.heap.size (some ad) L c (os.flatMap outC) rfl (hl.alloc (Nat.le_refl _) _) (outC_one os) (by unfold maxLen; omega) (by omega) (by simp) ?_; intro v1 w1 hown1 hg1 hat1)
    have hb : Below w.heap.size w w1 := ((Below.refl _ w).alloc (Nat.le_refl _) _).grown hg1 (by simp) (by simp [Value.ownBlock])
    obtain ⟨bo, A', c', rfl, h1, h2, h3⟩ := obk_of_own (by simpa using hown1) hlen.out
    go_ret
    exact ⟨bo, A', c', rfl, h1, h2, h3, hb⟩
end Go.Proofs.Ytfnnjaljnfphlaa
