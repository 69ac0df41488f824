/- order.kinds: the map of method values; looking a kind up. -/
import Derived.Test.YtfnnjaljnfphlaaOdw
import Derived.MapKept
import Derived.Maps.Own
namespace Go.Proofs.Ytfnnjaljnfphlaa
open Go.RowKit
set_option maxRecDepth 100000
set_option maxHeartbeats 4000000
set_option linter.unusedSimpArgs false
set_option linter.unusedVariables false

/-- The map's entries. -/
def kindE : Array MapEntry := #[⟨.int .i64 1, .func (.func 114) #[] #[], 0⟩, ⟨.int .i64 2, .func (.func 115) #[] #[], 1⟩, ⟨.int .i64 3, .func (.func 115) #[] #[], 2⟩, ⟨.int .i64 4, .func (.func 116) #[] #[], 3⟩, ⟨.int .i64 5, .func (.func 117) #[] #[], 4⟩, ⟨.int .i64 6, .func (.func 118) #[] #[], 5⟩, ⟨.int .i64 7, .func (.func 119) #[] #[], 6⟩, ⟨.int .i64 8, .func (.func 120) #[] #[], 7⟩, ⟨.int .i64 9, .func (.func 121) #[] #[], 8⟩]
theorem setNew (w : World) (a b : Obj) : ({ (w.alloc a) with heap := (w.alloc a).heap.setIfInBounds w.heap.size b } : World) = w.alloc b := by
  unfold World.alloc
  simp only [World.mk.injEq, true_and, and_true]
  apply Array.ext_getElem?
  intro i
  rw [Array.getElem?_setIfInBounds]
  by_cases e : w.heap.size = i
  · subst e; simp
  · rw [if_neg e, Array.getElem?_push, Array.getElem?_push]
    simp [Ne.symm e]
theorem findNo (es : List MapEntry) (k : Int) (i : Nat) (h : ∀ x ∈ es, ∃ j : Int, x.key = .int .i64 j ∧ j ≠ k) : Instr.findNow (.int .i64) (.int .i64 k) es i = some none := by
  induction es generalizing i with
  | nil => rfl
  | cons x es ih =>
    obtain ⟨j, hj, hne⟩ := h x (by simp)
    have hb : (k == j) = false := by simpa using fun e => hne e.symm
    unfold Instr.findNow
    rw [hj]
    have hs : Instr.sameNow (.int .i64) (.int .i64 k) (.int .i64 j) = some false := by simp [Instr.sameNow, hb]
    rw [hs]
    exact ih _ (fun y hy => h y (by simp [hy]))
theorem ins_new (w : World) (es : Array MapEntry) (c : Nat) (k : Int) (v : Value) (h : ∀ x ∈ es.toList, ∃ j : Int, x.key = .int .i64 j ∧ j ≠ k) :
    (Instr.mapUpdate 105 (.map (some w.heap.size)) (.int .i64 k) v).run Try.prog (w.alloc (.map es c)) = .ok () (w.alloc (.map (es.push ⟨.int .i64 k, v, c⟩) (c + 1))) := by
  have hb : (w.alloc (.map es c)).heap[w.heap.size]? = some (.map es c) := heap_alloc_new w _
  have hc : (Instr.checkKey false 10000 3 (.int .i64 k)).run Try.prog (w.alloc (.map es c)) = .ok () (w.alloc (.map es c)) := MapKept.run_checkKey (k := .int .i64 k) Try.underlying3 (by simp [MapKept.IsKey]) false 9999
  have e := setNew w (.map es c) (.map (es.push ⟨.int .i64 k, v, c⟩) (c + 1))
  simp only [Instr.mapUpdate, Sem.run_bind, run_underlying Try.underlying105, MapKept.run_getObj_map hb, hc, MapKept.run_findKey Try.underlying3 (findNo _ _ _ h), MapKept.run_setObj_map _ hb, Result.andThen]
  rw [e]

theorem kinds_any (w : World) : Calls Try.prog 76 #[] w fun e w' => e = .returned (.map (some w.heap.size)) ∧ w' = w.alloc (.map kindE 9) := by
  have hmm := @run_makeMap Try.prog
  have h0 : (Instr.mapUpdate 105 (.map (some w.heap.size)) (.int .i64 1) (.func (.func 114) #[] #[])).run Try.prog (w.alloc (.map #[] 0)) = .ok () (w.alloc (.map #[⟨.int .i64 1, .func (.func 114) #[] #[], 0⟩] 1)) := ins_new w _ _ _ _ (by intro x hx; simp only [List.mem_cons, List.not_mem_nil, or_false] at hx; try (rcases hx with rfl <;> exact ⟨_, rfl, by decide⟩))
  have h1 : (Instr.mapUpdate 105 (.map (some w.heap.size)) (.int .i64 2) (.func (.func 115) #[] #[])).run Try.prog (w.alloc (.map #[⟨.int .i64 1, .func (.func 114) #[] #[], 0⟩] 1)) = .ok () (w.alloc (.map #[⟨.int .i64 1, .func (.func 114) #[] #[], 0⟩, ⟨.int .i64 2, .func (.func 115) #[] #[], 1⟩] 2)) := ins_new w _ _ _ _ (by intro x hx; simp only [List.mem_cons, List.not_mem_nil, or_false] at hx; try (rcases hx with rfl <;> exact ⟨_, rfl, by decide⟩))
  have h2 : (Instr.mapUpdate 105 (.map (some w.heap.size)) (.int .i64 3) (.func (.func 115) #[] #[])).run Try.prog (w.alloc (.map #[⟨.int .i64 1, .func (.func 114) #[] #[], 0⟩, ⟨.int .i64 2, .func (.func 115) #[] #[], 1⟩] 2)) = .ok () (w.alloc (.map #[⟨.int .i64 1, .func (.func 114) #[] #[], 0⟩, ⟨.int .i64 2, .func (.func 115) #[] #[], 1⟩, ⟨.int .i64 3, .func (.func 115) #[] #[], 2⟩] 3)) := ins_new w _ _ _ _ (by intro x hx; simp only [List.mem_cons, List.not_mem_nil, or_false] at hx; try (rcases hx with rfl | rfl <;> exact ⟨_, rfl, by decide⟩))
  have h3 : (Instr.mapUpdate 105 (.map (some w.heap.size)) (.int .i64 4) (.func (.func 116) #[] #[])).run Try.prog (w.alloc (.map #[⟨.int .i64 1, .func (.func 114) #[] #[], 0⟩, ⟨.int .i64 2, .func (.func 115) #[] #[], 1⟩, ⟨.int .i64 3, .func (.func 115) #[] #[], 2⟩] 3)) = .ok () (w.alloc (.map #[⟨.int .i64 1, .func (.func 114) #[] #[], 0⟩, ⟨.int .i64 2, .func (.func 115) #[] #[], 1⟩, ⟨.int .i64 3, .func (.func 115) #[] #[], 2⟩, ⟨.int .i64 4, .func (.func 116) #[] #[], 3⟩] 4)) := ins_new w _ _ _ _ (by intro x hx; simp only [List.mem_cons, List.not_mem_nil, or_false] at hx; try (rcases hx with rfl | rfl | rfl <;> exact ⟨_, rfl, by decide⟩))
  have h4 : (Instr.mapUpdate 105 (.map (some w.heap.size)) (.int .i64 5) (.func (.func 117) #[] #[])).run Try.prog (w.alloc (.map #[⟨.int .i64 1, .func (.func 114) #[] #[], 0⟩, ⟨.int .i64 2, .func (.func 115) #[] #[], 1⟩, ⟨.int .i64 3, .func (.func 115) #[] #[], 2⟩, ⟨.int .i64 4, .func (.func 116) #[] #[], 3⟩] 4)) = .ok () (w.alloc (.map #[⟨.int .i64 1, .func (.func 114) #[] #[], 0⟩, ⟨.int .i64 2, .func (.func 115) #[] #[], 1⟩, ⟨.int .i64 3, .func (.func 115) #[] #[], 2⟩, ⟨.int .i64 4, .func (.func 116) #[] #[], 3⟩, ⟨.int .i64 5, .func (.func 117) #[] #[], 4⟩] 5)) := ins_new w _ _ _ _ (by intro x hx; simp only [List.mem_cons, List.not_mem_nil, or_false] at hx; try (rcases hx with rfl | rfl | rfl | rfl <;> exact ⟨_, rfl, by decide⟩))
  have h5 : (Instr.mapUpdate 105 (.map (some w.heap.size)) (.int .i64 6) (.func (.func 118) #[] #[])).run Try.prog (w.alloc (.map #[⟨.int .i64 1, .func (.func 114) #[] #[], 0⟩, ⟨.int .i64 2, .func (.func 115) #[] #[], 1⟩, ⟨.int .i64 3, .func (.func 115) #[] #[], 2⟩, ⟨.int .i64 4, .func (.func 116) #[] #[], 3⟩, ⟨.int .i64 5, .func (.func 117) #[] #[], 4⟩] 5)) = .ok () (w.alloc (.map #[⟨.int .i64 1, .func (.func 114) #[] #[], 0⟩, ⟨.int .i64 2, .func (.func 115) #[] #[], 1⟩, ⟨.int .i64 3, .func (.func 115) #[] #[], 2⟩, ⟨.int .i64 4, .func (.func 116) #[] #[], 3⟩, ⟨.int .i64 5, .func (.func 117) #[] #[], 4⟩, ⟨.int .i64 6, .func (.func 118) #[] #[], 5⟩] 6)) := ins_new w _ _ _ _ (by intro x hx; simp only [List.mem_cons, List.not_mem_nil, or_false] at hx; try (rcases hx with rfl | rfl | rfl | rfl | rfl <;> exact ⟨_, rfl, by decide⟩))
  have h6 : (Instr.mapUpdate 105 (.map (some w.heap.size)) (.int .i64 7) (.func (.func 119) #[] #[])).run Try.prog (w.alloc (.map #[⟨.int .i64 1, .func (.func 114) #[] #[], 0⟩, ⟨.int .i64 2, .func (.func 115) #[] #[], 1⟩, ⟨.int .i64 3, .func (.func 115) #[] #[], 2⟩, ⟨.int .i64 4, .func (.func 116) #[] #[], 3⟩, ⟨.int .i64 5, .func (.func 117) #[] #[], 4⟩, ⟨.int .i64 6, .func (.func 118) #[] #[], 5⟩] 6)) = .ok () (w.alloc (.map #[⟨.int .i64 1, .func (.func 114) #[] #[], 0⟩, ⟨.int .i64 2, .func (.func 115) #[] #[], 1⟩, ⟨.int .i64 3, .func (.func 115) #[] #[], 2⟩, ⟨.int .i64 4, .func (.func 116) #[] #[], 3⟩, ⟨.int .i64 5, .func (.func 117) #[] #[], 4⟩, ⟨.int .i64 6, .func (.func 118) #[] #[], 5⟩, ⟨.int .i64 7, .func (.func 119) #[] #[], 6⟩] 7)) := ins_new w _ _ _ _ (by intro x hx; simp only [List.mem_cons, List.not_mem_nil, or_false] at hx; try (rcases hx with rfl | rfl | rfl | rfl | rfl | rfl <;> exact ⟨_, rfl, by decide⟩))
  have h7 : (Instr.mapUpdate 105 (.map (some w.heap.size)) (.int .i64 8) (.func (.func 120) #[] #[])).run Try.prog (w.alloc (.map #[⟨.int .i64 1, .func (.func 114) #[] #[], 0⟩, ⟨.int .i64 2, .func (.func 115) #[] #[], 1⟩, ⟨.int .i64 3, .func (.func 115) #[] #[], 2⟩, ⟨.int .i64 4, .func (.func 116) #[] #[], 3⟩, ⟨.int .i64 5, .func (.func 117) #[] #[], 4⟩, ⟨.int .i64 6, .func (.func 118) #[] #[], 5⟩, ⟨.int .i64 7, .func (.func 119) #[] #[], 6⟩] 7)) = .ok () (w.alloc (.map #[⟨.int .i64 1, .func (.func 114) #[] #[], 0⟩, ⟨.int .i64 2, .func (.func 115) #[] #[], 1⟩, ⟨.int .i64 3, .func (.func 115) #[] #[], 2⟩, ⟨.int .i64 4, .func (.func 116) #[] #[], 3⟩, ⟨.int .i64 5, .func (.func 117) #[] #[], 4⟩, ⟨.int .i64 6, .func (.func 118) #[] #[], 5⟩, ⟨.int .i64 7, .func (.func 119) #[] #[], 6⟩, ⟨.int .i64 8, .func (.func 120) #[] #[], 7⟩] 8)) := ins_new w _ _ _ _ (by intro x hx; simp only [List.mem_cons, List.not_mem_nil, or_false] at hx; try (rcases hx with rfl | rfl | rfl | rfl | rfl | rfl | rfl <;> exact ⟨_, rfl, by decide⟩))
  have h8 : (Instr.mapUpdate 105 (.map (some w.heap.size)) (.int .i64 9) (.func (.func 121) #[] #[])).run Try.prog (w.alloc (.map #[⟨.int .i64 1, .func (.func 114) #[] #[], 0⟩, ⟨.int .i64 2, .func (.func 115) #[] #[], 1⟩, ⟨.int .i64 3, .func (.func 115) #[] #[], 2⟩, ⟨.int .i64 4, .func (.func 116) #[] #[], 3⟩, ⟨.int .i64 5, .func (.func 117) #[] #[], 4⟩, ⟨.int .i64 6, .func (.func 118) #[] #[], 5⟩, ⟨.int .i64 7, .func (.func 119) #[] #[], 6⟩, ⟨.int .i64 8, .func (.func 120) #[] #[], 7⟩] 8)) = .ok () (w.alloc (.map #[⟨.int .i64 1, .func (.func 114) #[] #[], 0⟩, ⟨.int .i64 2, .func (.func 115) #[] #[], 1⟩, ⟨.int .i64 3, .func (.func 115) #[] #[], 2⟩, ⟨.int .i64 4, .func (.func 116) #[] #[], 3⟩, ⟨.int .i64 5, .func (.func 117) #[] #[], 4⟩, ⟨.int .i64 6, .func (.func 118) #[] #[], 5⟩, ⟨.int .i64 7, .func (.func 119) #[] #[], 6⟩, ⟨.int .i64 8, .func (.func 120) #[] #[], 7⟩, ⟨.int .i64 9, .func (.func 121) #[] #[], 8⟩] 9)) := ins_new w _ _ _ _ (by intro x hx; simp only [List.mem_cons, List.not_mem_nil, or_false] at hx; try (rcases hx with rfl | rfl | rfl | rfl | rfl | rfl | rfl | rfl <;> exact ⟨_, rfl, by decide⟩))
  go_enter Try.func76, Try.ntmps76
  go_wp2_with fail
  go_ret
  exact ⟨rfl, rfl⟩

def kindV (k : Int) : Value := if k = 1 then .func (.func 114) #[] #[] else if k = 2 then .func (.func 115) #[] #[] else if k = 3 then .func (.func 115) #[] #[] else if k = 4 then .func (.func 116) #[] #[] else if k = 5 then .func (.func 117) #[] #[] else if k = 6 then .func (.func 118) #[] #[] else if k = 7 then .func (.func 119) #[] #[] else if k = 8 then .func (.func 120) #[] #[] else if k = 9 then .func (.func 121) #[] #[] else .nilFunc
def kindB (k : Int) : Bool := decide (1 ≤ k ∧ k ≤ 9)
theorem look_yes (w : World) (g : Nat) (k : Int) (i : Nat) (v : Value) (hg : w.heap[g]? = some (.map kindE 9)) (h : Instr.findNow (.int .i64) (.int .i64 k) kindE.toList 0 = some (some (i, v))) (b : Bool) :
    (Instr.lookup 105 (.map (some g)) (.int .i64 k) b).run Try.prog w = .ok (if b then .tuple #[v, .bool true] else v) w := by
  have hc : (Instr.checkKey kindE.isEmpty 10000 3 (.int .i64 k)).run Try.prog w = .ok () w := MapKept.run_checkKey (k := .int .i64 k) Try.underlying3 (by simp [MapKept.IsKey]) _ 9999
  simp only [Instr.lookup, Sem.run_bind, run_underlying Try.underlying105, MapKept.run_getObj_map hg, hc, MapKept.run_findKey Try.underlying3 h, Result.andThen, Sem.run_pure]
theorem look_no (w : World) (g : Nat) (k : Int) (hg : w.heap[g]? = some (.map kindE 9)) (hk : ¬ (1 ≤ k ∧ k ≤ 9)) :
    (Instr.lookup 105 (.map (some g)) (.int .i64 k) true).run Try.prog w = .ok (.tuple #[.nilFunc, .bool false]) w := by
  have hc : (Instr.checkKey kindE.isEmpty 10000 3 (.int .i64 k)).run Try.prog w = .ok () w := MapKept.run_checkKey (k := .int .i64 k) Try.underlying3 (by simp [MapKept.IsKey]) _ 9999
  have hz : (zeroValue 104).run Try.prog w = .ok .nilFunc w := by kernel_rfl
  have h : Instr.findNow (.int .i64) (.int .i64 k) kindE.toList 0 = some none := findNo _ _ _ (by
    intro x hx
    simp only [kindE, List.mem_cons, List.not_mem_nil, or_false] at hx
    rcases hx with rfl | rfl | rfl | rfl | rfl | rfl | rfl | rfl | rfl
    all_goals exact ⟨_, rfl, by omega⟩)
  simp only [Instr.lookup, Sem.run_bind, run_underlying Try.underlying105, MapKept.run_getObj_map hg, hc, MapKept.run_findKey Try.underlying3 h, hz, Result.andThen, Sem.run_pure, if_true]
theorem look_any (w : World) (g : Nat) (k : Int) (hg : w.heap[g]? = some (.map kindE 9)) : (Instr.lookup 105 (.map (some g)) (.int .i64 k) true).run Try.prog w = .ok (.tuple #[kindV k, .bool (kindB k)]) w := by
  by_cases hk : 1 ≤ k ∧ k ≤ 9
  · obtain rfl | rfl | rfl | rfl | rfl | rfl | rfl | rfl | rfl : k = 1 ∨ k = 2 ∨ k = 3 ∨ k = 4 ∨ k = 5 ∨ k = 6 ∨ k = 7 ∨ k = 8 ∨ k = 9 := by omega
    · exact look_yes w g 1 0 _ hg rfl true
    · exact look_yes w g 2 1 _ hg rfl true
    · exact look_yes w g 3 2 _ hg rfl true
    · exact look_yes w g 4 3 _ hg rfl true
    · exact look_yes w g 5 4 _ hg rfl true
    · exact look_yes w g 6 5 _ hg rfl true
    · exact look_yes w g 7 6 _ hg rfl true
    · exact look_yes w g 8 7 _ hg rfl true
    · exact look_yes w g 9 8 _ hg rfl true
  · rw [look_no w g k hg hk]
    have h1 : kindB k = false := by simpa [kindB] using hk
    have h2 : kindV k = .nilFunc := by
      unfold kindV
      rw [if_neg (by omega), if_neg (by omega), if_neg (by omega), if_neg (by omega), if_neg (by omega), if_neg (by omega), if_neg (by omega), if_neg (by omega), if_neg (by omega)]
    rw [h1, h2]
theorem look_fn (w : World) (g : Nat) (k : Int) (hg : w.heap[g]? = some (.map kindE 9)) (hk : 1 ≤ k ∧ k ≤ 9) : (Instr.lookup 105 (.map (some g)) (.int .i64 k) false).run Try.prog w = .ok (kindV k) w := by
  obtain rfl | rfl | rfl | rfl | rfl | rfl | rfl | rfl | rfl : k = 1 ∨ k = 2 ∨ k = 3 ∨ k = 4 ∨ k = 5 ∨ k = 6 ∨ k = 7 ∨ k = 8 ∨ k = 9 := by omega
  · exact look_yes w g 1 0 _ hg rfl false
  · exact look_yes w g 2 1 _ hg rfl false
  · exact look_yes w g 3 2 _ hg rfl false
  · exact look_yes w g 4 3 _ hg rfl false
  · exact look_yes w g 5 4 _ hg rfl false
  · exact look_yes w g 6 5 _ hg rfl false
  · exact look_yes w g 7 6 _ hg rfl false
  · exact look_yes w g 8 7 _ hg rfl false
  · exact look_yes w g 9 8 _ hg rfl false
end Go.Proofs.Ytfnnjaljnfphlaa
