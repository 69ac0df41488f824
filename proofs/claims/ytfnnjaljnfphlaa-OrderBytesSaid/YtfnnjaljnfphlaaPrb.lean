/- Contracts of package probe and of its reference. -/
import Derived.Test.YtfnnjaljnfphlaaR02
namespace Go.Proofs.Ytfnnjaljnfphlaa
open Go.RowKit
set_option maxRecDepth 100000
set_option maxHeartbeats 1000000
set_option linter.unusedSimpArgs false
set_option linter.unusedVariables false

def endB (s p : Int) : Bool := decide (1 ≤ s ∧ s ≤ 6 ∧ 1 ≤ p ∧ p ≤ 4)
theorem endB_iff {s p : Int} : endB s p = true ↔ (1 ≤ s ∧ s ≤ 6 ∧ 1 ≤ p ∧ p ≤ 4) := by simp [endB]
/-- Whether a probe may be. -/
def PrOk (f fp t tp n : Int) : Prop := (1 ≤ f ∧ f ≤ 6 ∧ 1 ≤ fp ∧ fp ≤ 4) ∧ ((t = 0 ∧ tp = 0) ∨ (1 ≤ t ∧ t ≤ 6 ∧ 1 ≤ tp ∧ tp ≤ 4)) ∧ 0 ≤ n ∧ n ≤ 65535
instance (f fp t tp n : Int) : Decidable (PrOk f fp t tp n) := by unfold PrOk; infer_instance
def prE (f fp t tp n : Int) : Int := if PrOk f fp t tp n then 0 else 2
theorem prE_ok {f fp t tp n : Int} (h : PrOk f fp t tp n) : prE f fp t tp n = 0 := if_pos h
theorem prE_no {f fp t tp n : Int} (h : ¬ PrOk f fp t tp n) : prE f fp t tp n = 2 := if_neg h

theorem end_y {a b : Int} {x : Bool} (h : x = true ↔ (1 ≤ a ∧ a ≤ 6 ∧ 1 ≤ b ∧ b ≤ 4)) : x = endB a b := by
  rw [Bool.eq_iff_iff, endB_iff]; exact h
theorem pend_any (a b : Int) (w : World) :
    Calls Try.prog 57 #[.int .i64 a, .int .i64 b] w fun e w' => e = .returned (.bool (endB a b)) ∧ w = w' := by
  go_enter Try.func57, Try.ntmps57
  go_wp2
  all_goals
    go_ret
    exact ⟨ret_b (end_y (by simp; try omega)), rfl⟩
theorem rpend_any (a b : Int) (w : World) :
    Calls Try.prog 122 #[.int .i64 a, .int .i64 b] w fun e w' => e = .returned (.bool (endB a b)) ∧ w = w' := by
  go_enter Try.func122, Try.ntmps122
  go_wp2
  all_goals
    go_ret
    exact ⟨ret_b (end_y (by simp; try omega)), rfl⟩

theorem pcheck_any (f fp t tp n : Int) (w : World) :
    Calls Try.prog 23 #[.agg #[.int .i64 f, .int .i64 fp, .int .i64 t, .int .i64 tp, .int .i64 n]] w fun e w' => e = .returned (.int .i64 (prE f fp t tp n)) ∧ Below w.heap.size w w' := by
  go_enter Try.func23, Try.ntmps23
  go_wp2_with (first | (go_at_call 57; refine (pend_any _ _ _).mono ?_; rintro e w1 ⟨rfl, rfl⟩))
  all_goals
    go_ret
    refine ⟨ret_i ?_, (Below.refl _ w).alloc (Nat.le_refl _) _⟩
    simp only [endB_iff] at *
    first
      | exact (prE_ok (by unfold PrOk; omega)).symm
      | exact (prE_no (by unfold PrOk; omega)).symm
theorem rpcheck_any (f fp t tp n : Int) (w : World) :
    Calls Try.prog 82 #[.agg #[.int .i64 f, .int .i64 fp, .int .i64 t, .int .i64 tp, .int .i64 n]] w fun e w' => e = .returned (.int .i64 (prE f fp t tp n)) ∧ Below w.heap.size w w' := by
  go_enter Try.func82, Try.ntmps82
  go_wp2_with (first | (go_at_call 122; refine (rpend_any _ _ _).mono ?_; rintro e w1 ⟨rfl, rfl⟩))
  all_goals
    go_ret
    refine ⟨ret_i ?_, (Below.refl _ w).alloc (Nat.le_refl _) _⟩
    simp only [endB_iff] at *
    first
      | exact (prE_ok (by unfold PrOk; omega)).symm
      | exact (prE_no (by unfold PrOk; omega)).symm

/-- What Found answers: the error; and each number of the probe, or 0. -/
def fndE (f fp t tp n q r : Int) : Int := if prE f fp t tp n = 2 then 2 else if ¬ t = 0 then 180 else if endB q r = true then 0 else 2
def fndV (f fp t tp n q r x : Int) : Int := if fndE f fp t tp n q r = 0 then x else 0
theorem prE_cases (f fp t tp n : Int) : prE f fp t tp n = 0 ∨ prE f fp t tp n = 2 := by unfold prE; split <;> simp

theorem found_any (f fp t tp n q r : Int) (w : World) :
    Calls Try.prog 21 #[.agg #[.int .i64 f, .int .i64 fp, .int .i64 t, .int .i64 tp, .int .i64 n], .int .i64 q, .int .i64 r] w fun e w' =>
      e = .returned (.tuple #[.agg #[.int .i64 (fndV f fp t tp n q r f), .int .i64 (fndV f fp t tp n q r fp), .int .i64 (fndV f fp t tp n q r q), .int .i64 (fndV f fp t tp n q r r), .int .i64 (fndV f fp t tp n q r n)], .int .i64 (fndE f fp t tp n q r)]) ∧ Below w.heap.size w w' := by
  rcases prE_cases f fp t tp n with hp | hp
  · by_cases ht : t = 0
    · by_cases he : endB q r = true
      · have HE := Lib.hid (show fndE f fp t tp n q r = 0 by rw [fndE, if_neg (by omega), if_neg (by omega), if_pos he])
        have ht2 : (t != 0) = false := by simp [ht]
        clear ht
        go_enter Try.func21, Try.ntmps21
        go_wp2_with (first | (go_at_call 23; refine (pcheck_any _ _ _ _ _ _).mono ?_; rintro e w1 ⟨rfl, hb1⟩; obtain ⟨c0, c1, c2, c3, c4, f0⟩ := (((Bk.new w 23 _).alloc _).kept hb1).five; obtain ⟨d0, d1, d2, d3, d4, f1⟩ := ((Bk.new _ 23 _).kept hb1).five; rw [World.size_alloc] at d0 d1 d2 d3 d4 f1) | (go_at_call 57; refine (pend_any _ _ _).mono ?_; rintro e w1 ⟨rfl, rfl⟩))
        have hB : Below w.heap.size w w1 := Below.new _ (Below.new _ hb1)
        have hV : ∀ x, fndV f fp t tp n q r x = x := fun x => by rw [fndV, if_pos HE.out]
        refine bodyPost_ret (v := .tuple #[.agg #[.int .i64 f, .int .i64 fp, .int .i64 q, .int .i64 r, .int .i64 n], .int .i64 0]) (by simp [results, Try.results21, go_sem, c0, c1, c2, c3, c4, d0, d1, d2, d3, d4]) rfl ⟨?_, ?_⟩
        · simp only [hV, HE.out]
        · repeat (refine Below.setCell ?_ (by simp) _)
          exact hB
      · have HE := Lib.hid (show fndE f fp t tp n q r = 2 by rw [fndE, if_neg (by omega), if_neg (by omega), if_neg he])
        have ht2 : (t != 0) = false := by simp [ht]
        have he2 : endB q r = false := by simpa using he
        clear ht he
        go_enter Try.func21, Try.ntmps21
        go_wp2_with (first | (go_at_call 23; refine (pcheck_any _ _ _ _ _ _).mono ?_; rintro e w1 ⟨rfl, hb1⟩; obtain ⟨c0, c1, c2, c3, c4, f0⟩ := (((Bk.new w 23 _).alloc _).kept hb1).five; obtain ⟨d0, d1, d2, d3, d4, f1⟩ := ((Bk.new _ 23 _).kept hb1).five; rw [World.size_alloc] at d0 d1 d2 d3 d4 f1) | (go_at_call 57; refine (pend_any _ _ _).mono ?_; rintro e w1 ⟨rfl, rfl⟩))
        have hB : Below w.heap.size w w1 := Below.new _ (Below.new _ hb1)
        have hV : ∀ x, fndV f fp t tp n q r x = 0 := fun x => by rw [fndV, if_neg (by rw [HE.out]; omega)]
        refine bodyPost_ret (v := .tuple #[.agg #[.int .i64 0, .int .i64 0, .int .i64 0, .int .i64 0, .int .i64 0], .int .i64 2]) (by simp [results, Try.results21, go_sem, c0, c1, c2, c3, c4, d0, d1, d2, d3, d4]) rfl ⟨?_, ?_⟩
        · simp only [hV, HE.out]
        · repeat (refine Below.setCell ?_ (by simp) _)
          exact hB
    · have HE := Lib.hid (show fndE f fp t tp n q r = 180 by rw [fndE, if_neg (by omega), if_pos ht])
      have ht2 : (t != 0) = true := by simpa using ht
      clear ht
      go_enter Try.func21, Try.ntmps21
      go_wp2_with (first | (go_at_call 23; refine (pcheck_any _ _ _ _ _ _).mono ?_; rintro e w1 ⟨rfl, hb1⟩; obtain ⟨c0, c1, c2, c3, c4, f0⟩ := (((Bk.new w 23 _).alloc _).kept hb1).five; obtain ⟨d0, d1, d2, d3, d4, f1⟩ := ((Bk.new _ 23 _).kept hb1).five; rw [World.size_alloc] at d0 d1 d2 d3 d4 f1) | (go_at_call 57; refine (pend_any _ _ _).mono ?_; rintro e w1 ⟨rfl, rfl⟩))
      have hB : Below w.heap.size w w1 := Below.new _ (Below.new _ hb1)
      have hV : ∀ x, fndV f fp t tp n q r x = 0 := fun x => by rw [fndV, if_neg (by rw [HE.out]; omega)]
      refine bodyPost_ret (v := .tuple #[.agg #[.int .i64 0, .int .i64 0, .int .i64 0, .int .i64 0, .int .i64 0], .int .i64 180]) (by simp [results, Try.results21, go_sem, c0, c1, c2, c3, c4, d0, d1, d2, d3, d4]) rfl ⟨?_, ?_⟩
      · simp only [hV, HE.out]
      · repeat (refine Below.setCell ?_ (by simp) _)
        exact hB
  · have HE := Lib.hid (show fndE f fp t tp n q r = 2 by rw [fndE, if_pos hp])
    go_enter Try.func21, Try.ntmps21
    go_wp2_with (first | (go_at_call 23; refine (pcheck_any _ _ _ _ _ _).mono ?_; rintro e w1 ⟨rfl, hb1⟩; obtain ⟨c0, c1, c2, c3, c4, f0⟩ := (((Bk.new w 23 _).alloc _).kept hb1).five; obtain ⟨d0, d1, d2, d3, d4, f1⟩ := ((Bk.new _ 23 _).kept hb1).five; rw [World.size_alloc] at d0 d1 d2 d3 d4 f1) | (go_at_call 57; refine (pend_any _ _ _).mono ?_; rintro e w1 ⟨rfl, rfl⟩))
    have hB : Below w.heap.size w w1 := Below.new _ (Below.new _ hb1)
    have hV : ∀ x, fndV f fp t tp n q r x = 0 := fun x => by rw [fndV, if_neg (by rw [HE.out]; omega)]
    refine bodyPost_ret (v := .tuple #[.agg #[.int .i64 0, .int .i64 0, .int .i64 0, .int .i64 0, .int .i64 0], .int .i64 2]) (by simp [results, Try.results21, go_sem, c0, c1, c2, c3, c4, d0, d1, d2, d3, d4]) rfl ⟨?_, ?_⟩
    · simp only [hV, HE.out]
    · repeat (refine Below.setCell ?_ (by simp) _)
      exact hB

theorem rfound_any (f fp t tp n q r : Int) (w : World) :
    Calls Try.prog 83 #[.agg #[.int .i64 f, .int .i64 fp, .int .i64 t, .int .i64 tp, .int .i64 n], .int .i64 q, .int .i64 r] w fun e w' =>
      e = .returned (.tuple #[.agg #[.int .i64 (fndV f fp t tp n q r f), .int .i64 (fndV f fp t tp n q r fp), .int .i64 (fndV f fp t tp n q r q), .int .i64 (fndV f fp t tp n q r r), .int .i64 (fndV f fp t tp n q r n)], .int .i64 (fndE f fp t tp n q r)]) ∧ Below w.heap.size w w' := by
  rcases prE_cases f fp t tp n with hp | hp
  · by_cases ht : t = 0
    · by_cases he : endB q r = true
      · have HE := Lib.hid (show fndE f fp t tp n q r = 0 by rw [fndE, if_neg (by omega), if_neg (by omega), if_pos he])
        have ht2 : (t != 0) = false := by simp [ht]
        clear ht
        go_enter Try.func83, Try.ntmps83
        go_wp2_with (first | (go_at_call 82; refine (rpcheck_any _ _ _ _ _ _).mono ?_; rintro e w1 ⟨rfl, hb1⟩; obtain ⟨c0, c1, c2, c3, c4, f0⟩ := (((Bk.new w 23 _).alloc _).kept hb1).five; obtain ⟨d0, d1, d2, d3, d4, f1⟩ := ((Bk.new _ 23 _).kept hb1).five; rw [World.size_alloc] at d0 d1 d2 d3 d4 f1) | (go_at_call 122; refine (rpend_any _ _ _).mono ?_; rintro e w1 ⟨rfl, rfl⟩))
        have hB : Below w.heap.size w w1 := Below.new _ (Below.new _ hb1)
        have hV : ∀ x, fndV f fp t tp n q r x = x := fun x => by rw [fndV, if_pos HE.out]
        refine bodyPost_ret (v := .tuple #[.agg #[.int .i64 f, .int .i64 fp, .int .i64 q, .int .i64 r, .int .i64 n], .int .i64 0]) (by simp [results, Try.results83, go_sem, c0, c1, c2, c3, c4, d0, d1, d2, d3, d4]) rfl ⟨?_, ?_⟩
        · simp only [hV, HE.out]
        · repeat (refine Below.setCell ?_ (by simp) _)
          exact hB
      · have HE := Lib.hid (show fndE f fp t tp n q r = 2 by rw [fndE, if_neg (by omega), if_neg (by omega), if_neg he])
        have ht2 : (t != 0) = false := by simp [ht]
        have he2 : endB q r = false := by simpa using he
        clear ht he
        go_enter Try.func83, Try.ntmps83
        go_wp2_with (first | (go_at_call 82; refine (rpcheck_any _ _ _ _ _ _).mono ?_; rintro e w1 ⟨rfl, hb1⟩; obtain ⟨c0, c1, c2, c3, c4, f0⟩ := (((Bk.new w 23 _).alloc _).kept hb1).five; obtain ⟨d0, d1, d2, d3, d4, f1⟩ := ((Bk.new _ 23 _).kept hb1).five; rw [World.size_alloc] at d0 d1 d2 d3 d4 f1) | (go_at_call 122; refine (rpend_any _ _ _).mono ?_; rintro e w1 ⟨rfl, rfl⟩))
        have hB : Below w.heap.size w w1 := Below.new _ (Below.new _ hb1)
        have hV : ∀ x, fndV f fp t tp n q r x = 0 := fun x => by rw [fndV, if_neg (by rw [HE.out]; omega)]
        refine bodyPost_ret (v := .tuple #[.agg #[.int .i64 0, .int .i64 0, .int .i64 0, .int .i64 0, .int .i64 0], .int .i64 2]) (by simp [results, Try.results83, go_sem, c0, c1, c2, c3, c4, d0, d1, d2, d3, d4]) rfl ⟨?_, ?_⟩
        · simp only [hV, HE.out]
        · repeat (refine Below.setCell ?_ (by simp) _)
          exact hB
    · have HE := Lib.hid (show fndE f fp t tp n q r = 180 by rw [fndE, if_neg (by omega), if_pos ht])
      have ht2 : (t != 0) = true := by simpa using ht
      clear ht
      go_enter Try.func83, Try.ntmps83
      go_wp2_with (first | (go_at_call 82; refine (rpcheck_any _ _ _ _ _ _).mono ?_; rintro e w1 ⟨rfl, hb1⟩; obtain ⟨c0, c1, c2, c3, c4, f0⟩ := (((Bk.new w 23 _).alloc _).kept hb1).five; obtain ⟨d0, d1, d2, d3, d4, f1⟩ := ((Bk.new _ 23 _).kept hb1).five; rw [World.size_alloc] at d0 d1 d2 d3 d4 f1) | (go_at_call 122; refine (rpend_any _ _ _).mono ?_; rintro e w1 ⟨rfl, rfl⟩))
      have hB : Below w.heap.size w w1 := Below.new _ (Below.new _ hb1)
      have hV : ∀ x, fndV f fp t tp n q r x = 0 := fun x => by rw [fndV, if_neg (by rw [HE.out]; omega)]
      refine bodyPost_ret (v := .tuple #[.agg #[.int .i64 0, .int .i64 0, .int .i64 0, .int .i64 0, .int .i64 0], .int .i64 180]) (by simp [results, Try.results83, go_sem, c0, c1, c2, c3, c4, d0, d1, d2, d3, d4]) rfl ⟨?_, ?_⟩
      · simp only [hV, HE.out]
      · repeat (refine Below.setCell ?_ (by simp) _)
        exact hB
  · have HE := Lib.hid (show fndE f fp t tp n q r = 2 by rw [fndE, if_pos hp])
    go_enter Try.func83, Try.ntmps83
    go_wp2_with (first | (go_at_call 82; refine (rpcheck_any _ _ _ _ _ _).mono ?_; rintro e w1 ⟨rfl, hb1⟩; obtain ⟨c0, c1, c2, c3, c4, f0⟩ := (((Bk.new w 23 _).alloc _).kept hb1).five; obtain ⟨d0, d1, d2, d3, d4, f1⟩ := ((Bk.new _ 23 _).kept hb1).five; rw [World.size_alloc] at d0 d1 d2 d3 d4 f1) | (go_at_call 122; refine (rpend_any _ _ _).mono ?_; rintro e w1 ⟨rfl, rfl⟩))
    have hB : Below w.heap.size w w1 := Below.new _ (Below.new _ hb1)
    have hV : ∀ x, fndV f fp t tp n q r x = 0 := fun x => by rw [fndV, if_neg (by rw [HE.out]; omega)]
    refine bodyPost_ret (v := .tuple #[.agg #[.int .i64 0, .int .i64 0, .int .i64 0, .int .i64 0, .int .i64 0], .int .i64 2]) (by simp [results, Try.results83, go_sem, c0, c1, c2, c3, c4, d0, d1, d2, d3, d4]) rfl ⟨?_, ?_⟩
    · simp only [hV, HE.out]
    · repeat (refine Below.setCell ?_ (by simp) _)
      exact hB

end Go.Proofs.Ytfnnjaljnfphlaa
