/- The reference's Check of segments. -/
import Derived.Test.YtfnnjaljnfphlaaSgd
import Derived.Deep.CutRange
namespace Go.Proofs.Ytfnnjaljnfphlaa
open Go.RowKit
set_option maxRecDepth 100000
set_option maxHeartbeats 4000000
set_option linter.unusedSimpArgs false
set_option linter.unusedVariables false

def rEnds (t f : Int) : Bool := decide ((t = 0 ∧ 1 ≤ f ∧ f ≤ 6) ∨ (f = 0 ∧ 1 ≤ t ∧ t ≤ 6))
def rNums (k h ep bo sq ac : Int) (m : Nat) : Bool := decide (1 ≤ k ∧ k ≤ 5) && (!outB 12 h) && (!outB 4294967295 ep) && (!outB 4294967295 bo) && (!outB 65535 sq) && (!outB 65535 ac) && decide (m ≤ 256)

theorem rscheck_any (k t f h ep bo sq ac : Int) (A : Option Addr) (N c : Nat) (w : World) :
    Calls Try.prog 28 #[.agg (sgC k t f h ep bo sq ac A N c)] w fun e w' => e = .returned (.int .i64 (sgE k t f h ep bo sq ac N)) ∧ w' = w.alloc (.cells (sgC k t f h ep bo sq ac A N c) 34) := by
  obtain ⟨E, hE⟩ : ∃ E : Bool, E = rEnds t f := ⟨_, rfl⟩
  have HE := Lib.hid hE
  clear hE
  have K := Bk.new w 34 (sgC k t f h ep bo sq ac A N c)
  unfold sgC at K ⊢
  go_enter Try.func28, Try.ntmps28
  go_upto_region 1 with fail
  obtain ⟨w1, hw1⟩ : ∃ w1, w1 = w.alloc (.cells #[.int .i64 k, .int .i64 t, .int .i64 f, .int .i64 h, .int .i64 ep, .int .i64 bo, .int .i64 sq, .int .i64 ac, .slice A N c] 34) := ⟨_, rfl⟩
  have HW := Lib.hid hw1
  rw [← hw1] at K ⊢
  clear hw1
  obtain ⟨c0, c1, c2, c3, c4, c5, c6, c7, c8, f0⟩ := K.nine
  go_cut [3] from 11 to 38 (fun s3 wx => s3 = .bool E ∧ wx = w1)
  case first =>
    clear c0 c3 c4 c5 c6 c7 c8
    by_cases ht : t = 0
    · subst ht
      by_cases hf0 : f = 0
      · subst hf0
        go_wp2_with fail
        all_goals go_meet
        all_goals exact ⟨congrArg Value.bool (by rw [HE.out]; simp [rEnds]), rfl⟩
      · have e2 : (f == 0) = false := by simpa using hf0
        go_wp2_with fail
        all_goals go_meet
        all_goals exact ⟨congrArg Value.bool (by rw [HE.out]; simp [rEnds]; omega), rfl⟩
    · have e1 : (t == 0) = false := by simpa using ht
      by_cases hf0 : f = 0
      · subst hf0
        go_wp2_with fail
        all_goals go_meet
        all_goals exact ⟨congrArg Value.bool (by rw [HE.out]; simp [rEnds]; omega), rfl⟩
      · have e2 : (f == 0) = false := by simpa using hf0
        go_wp2_with fail
        all_goals go_meet
        all_goals exact ⟨congrArg Value.bool (by rw [HE.out]; simp [rEnds]; omega), rfl⟩
  case rest =>
    obtain ⟨rfl, rfl⟩ := hcut
    have hk1 : decide (k < 1) = true ∨ decide (k < 1) = false := by cases decide (k < 1) <;> simp
    have OK : ¬ (E = true ∧ 1 ≤ k ∧ k ≤ 5 ∧ outB 12 h = false ∧ outB 4294967295 ep = false ∧ outB 4294967295 bo = false ∧ outB 65535 sq = false ∧ outB 65535 ac = false ∧ (N : Int) ≤ 256) → sgE k t f h ep bo sq ac N = 2 := fun hn => sgE_no fun hok => hn (by
      unfold SgOk at hok
      refine ⟨by rw [HE.out]; simp [rEnds]; omega, by omega, by omega, ?_, ?_, ?_, ?_, ?_, by omega⟩
      all_goals simp [outB]; omega)
    go_upto_region 4 with (go_at_call 65; refine (rwithin_any _ _ _).mono ?_; rintro e w2 ⟨rfl, rfl⟩)
    all_goals (first | (go_ret; refine ⟨ret_i (OK (fun hn => ?_)).symm, HW.out⟩; obtain ⟨x0, x1, x2, x3, x4, x5, x6, x7, x8⟩ := hn; (first | omega | (clear c0 c1 c2 c3 c4 c5 c6 c7 c8 f0; simp_all; done))) | skip)
    have x0 : E = true := by assumption
    have x3 : ¬outB 12 h = true := by assumption
    have x4 : ¬outB 4294967295 ep = true := by assumption
    have x5 : ¬outB 4294967295 bo = true := by assumption
    have x6 : ¬outB 65535 sq = true := by assumption
    have x7 : ¬outB 65535 ac = true := by assumption
    have xk : 1 ≤ k ∧ k ≤ 5 ∧ (N : Int) ≤ 256 := by omega
    obtain ⟨xk1, xk2, xN⟩ := xk
    have y0 : rEnds t f = true := by rw [← HE.out]; exact x0
    simp only [rEnds, decide_eq_true_eq] at y0
    have y3 : 0 ≤ h ∧ h ≤ 12 := by simpa [outB] using x3
    have y4 : 0 ≤ ep ∧ ep ≤ 4294967295 := by simpa [outB] using x4
    have y5 : 0 ≤ bo ∧ bo ≤ 4294967295 := by simpa [outB] using x5
    have y6 : 0 ≤ sq ∧ sq ≤ 65535 := by simpa [outB] using x6
    have y7 : 0 ≤ ac ∧ ac ≤ 65535 := by simpa [outB] using x7
    have Y0 := Lib.hid y0
    clear x0 x3 x4 x5 x6 x7 OK hk1 y0 HE
    obtain ⟨B5, hB5⟩ : ∃ B : Bool, B = decide (0 < ep ↔ 3 ≤ k) := ⟨_, rfl⟩
    have HB5 := Lib.hid hB5
    clear hB5
    obtain ⟨B6, hB6⟩ : ∃ B : Bool, B = decide (bo = 0 ∨ k = 2 ∨ k = 3) := ⟨_, rfl⟩
    have HB6 := Lib.hid hB6
    clear hB6
    obtain ⟨B7, hB7⟩ : ∃ B : Bool, B = decide (sq = 0 ∨ k = 5) := ⟨_, rfl⟩
    have HB7 := Lib.hid hB7
    clear hB7
    obtain ⟨B8, hB8⟩ : ∃ B : Bool, B = decide (ac = 0 ∨ k = 4) := ⟨_, rfl⟩
    have HB8 := Lib.hid hB8
    clear hB8
    obtain ⟨B9, hB9⟩ : ∃ B : Bool, B = decide (0 < N ↔ k = 5) := ⟨_, rfl⟩
    have HB9 := Lib.hid hB9
    clear hB9
    obtain ⟨B10, hB10⟩ : ∃ B : Bool, B = decide (((k = 1 ∨ k = 3) → 0 < t) ∧ (k = 2 → 0 < f)) := ⟨_, rfl⟩
    have HB10 := Lib.hid hB10
    clear hB10
    go_upto_region 5 with fail
    go_cut [5] from 89 to 102 (fun s5 wx => s5 = .bool B5 ∧ wx = wc)
    case first =>
      by_cases z3 : k = 3
      · subst z3
        go_wp2_with fail
        all_goals go_meet
        all_goals (refine ⟨congrArg Value.bool ?_, rfl⟩; rw [HB5.out]; (first | (rw [Bool.eq_iff_iff]; simp; done) | (rw [Bool.eq_iff_iff]; simp; omega) | (cases hc1 : decide (0 < ep) <;> cases hc2 : (k == 5) <;> simp at hc1 hc2 ⊢ <;> omega)))
      · by_cases z4 : k = 4
        · subst z4
          go_wp2_with fail
          all_goals go_meet
          all_goals (refine ⟨congrArg Value.bool ?_, rfl⟩; rw [HB5.out]; (first | (rw [Bool.eq_iff_iff]; simp; done) | (rw [Bool.eq_iff_iff]; simp; omega) | (cases hc1 : decide (0 < ep) <;> cases hc2 : (k == 5) <;> simp at hc1 hc2 ⊢ <;> omega)))
        · have n3 : (k == 3) = false := by simpa using z3
          have n4 : (k == 4) = false := by simpa using z4
          go_wp2_with fail
          all_goals go_meet
          all_goals (refine ⟨congrArg Value.bool ?_, rfl⟩; rw [HB5.out]; (first | (rw [Bool.eq_iff_iff]; simp; done) | (rw [Bool.eq_iff_iff]; simp; omega) | (cases hc1 : decide (0 < ep) <;> cases hc2 : (k == 5) <;> simp at hc1 hc2 ⊢ <;> omega)))
    case rest =>
    obtain ⟨rfl, rfl⟩ := hcut
    go_upto_region 6 with fail
    go_cut [6] from 103 to 113 (fun s6 wx => s6 = .bool B6 ∧ wx = wc)
    case first =>
      by_cases zb : bo = 0
      · subst zb
        go_wp2_with fail
        all_goals go_meet
        all_goals (refine ⟨congrArg Value.bool ?_, rfl⟩; rw [HB6.out, Bool.eq_iff_iff]; simp; (try omega))
      · have nb : (bo == 0) = false := by simpa using zb
        by_cases z3 : k = 2
        · subst z3
          go_wp2_with fail
          all_goals go_meet
          all_goals (refine ⟨congrArg Value.bool ?_, rfl⟩; rw [HB6.out, Bool.eq_iff_iff]; simp; (try omega))
        · have n2 : (k == 2) = false := by simpa using z3
          go_wp2_with fail
          all_goals go_meet
          all_goals (refine ⟨congrArg Value.bool ?_, rfl⟩; rw [HB6.out, Bool.eq_iff_iff]; simp; (try omega))
    case rest =>
    obtain ⟨rfl, rfl⟩ := hcut
    go_upto_region 7 with fail
    go_cut [7] from 114 to 120 (fun s7 wx => s7 = .bool B7 ∧ wx = wc)
    case first =>
      by_cases zb : sq = 0
      · subst zb
        go_wp2_with fail
        all_goals go_meet
        all_goals (refine ⟨congrArg Value.bool ?_, rfl⟩; rw [HB7.out, Bool.eq_iff_iff]; simp; (try omega))
      · have nb : (sq == 0) = false := by simpa using zb
        go_wp2_with fail
        all_goals go_meet
        all_goals (refine ⟨congrArg Value.bool ?_, rfl⟩; rw [HB7.out, Bool.eq_iff_iff]; simp; (try omega))
    case rest =>
    obtain ⟨rfl, rfl⟩ := hcut
    go_upto_region 8 with fail
    go_cut [8] from 121 to 127 (fun s8 wx => s8 = .bool B8 ∧ wx = wc)
    case first =>
      by_cases zb : ac = 0
      · subst zb
        go_wp2_with fail
        all_goals go_meet
        all_goals (refine ⟨congrArg Value.bool ?_, rfl⟩; rw [HB8.out, Bool.eq_iff_iff]; simp; (try omega))
      · have nb : (ac == 0) = false := by simpa using zb
        go_wp2_with fail
        all_goals go_meet
        all_goals (refine ⟨congrArg Value.bool ?_, rfl⟩; rw [HB8.out, Bool.eq_iff_iff]; simp; (try omega))
    case rest =>
    obtain ⟨rfl, rfl⟩ := hcut
    go_upto_region 9 with fail
    go_cut [9] from 128 to 134 (fun s9 wx => s9 = .bool B9 ∧ wx = wc)
    case first =>
      go_wp2_with fail
      all_goals go_meet
      all_goals (refine ⟨congrArg Value.bool ?_, rfl⟩; rw [HB9.out]; (cases hc1 : decide (0 < N) <;> cases hc2 : (k == 5) <;> simp at hc1 hc2 ⊢ <;> omega))
    case rest =>
    obtain ⟨rfl, rfl⟩ := hcut
    go_upto_region 10 with fail
    go_cut [10] from 135 to 154 (fun s10 wx => s10 = .bool B10 ∧ wx = wc)
    case first =>
      by_cases z1 : k = 1
      · subst z1
        go_wp2_with fail
        all_goals go_meet
        all_goals (refine ⟨congrArg Value.bool ?_, rfl⟩; rw [HB10.out, Bool.eq_iff_iff]; simp; (try omega))
      · have n1 : (k == 1) = false := by simpa using z1
        by_cases z3 : k = 3
        · subst z3
          go_wp2_with fail
          all_goals go_meet
          all_goals (refine ⟨congrArg Value.bool ?_, rfl⟩; rw [HB10.out, Bool.eq_iff_iff]; simp; (try omega))
        · have n3 : (k == 3) = false := by simpa using z3
          by_cases z2 : k = 2
          · subst z2
            go_wp2_with fail
            all_goals go_meet
            all_goals (refine ⟨congrArg Value.bool ?_, rfl⟩; rw [HB10.out, Bool.eq_iff_iff]; simp; (try omega))
          · have n2 : (k == 2) = false := by simpa using z2
            go_wp2_with fail
            all_goals go_meet
            all_goals (refine ⟨congrArg Value.bool ?_, rfl⟩; rw [HB10.out, Bool.eq_iff_iff]; simp; (try omega))
    case rest =>
    obtain ⟨rfl, rfl⟩ := hcut
    go_wp2_with fail
    all_goals (go_ret; refine ⟨ret_i ?_, HW.out⟩; clear K c0 c1 c2 c3 c4 c5 c6 c7 c8 f0; have z0 := Y0.out; obtain rfl := HB5.out; obtain rfl := HB6.out; obtain rfl := HB7.out; obtain rfl := HB8.out; obtain rfl := HB9.out; obtain rfl := HB10.out; simp only [Bool.not_eq_true', Bool.not_eq_false', decide_eq_true_eq, decide_eq_false_iff_not] at *; (first | exact (sgE_ok (by unfold SgOk; omega)).symm | exact (sgE_no (by unfold SgOk; omega)).symm))
theorem rscheck_below (k t f h ep bo sq ac : Int) (A : Option Addr) (N c : Nat) (w : World) :
    Calls Try.prog 28 #[.agg (sgC k t f h ep bo sq ac A N c)] w fun e w' => e = .returned (.int .i64 (sgE k t f h ep bo sq ac N)) ∧ Below w.heap.size w w' := by
  refine (rscheck_any k t f h ep bo sq ac A N c w).mono ?_
  rintro e w' ⟨rfl, rfl⟩
  exact ⟨rfl, (Below.refl _ _).push _⟩
end Go.Proofs.Ytfnnjaljnfphlaa
