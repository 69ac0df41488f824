/- seg.Check: whether a segment may be. -/
import Derived.Test.YtfnnjaljnfphlaaSgd
import Derived.Deep.DeepCutAuto
namespace Go.Proofs.Ytfnnjaljnfphlaa
open Go.RowKit
set_option maxRecDepth 100000
set_option maxHeartbeats 4000000
set_option linter.unusedSimpArgs false
set_option linter.unusedVariables false

theorem scheck_any (k t f h ep bo sq ac : Int) (A : Option Addr) (N c : Nat) (w : World) :
    Calls Try.prog 27 #[.agg (sgC k t f h ep bo sq ac A N c)] w fun e w' => e = .returned (.int .i64 (sgE k t f h ep bo sq ac N)) ∧ Below w.heap.size w w' := by
  obtain ⟨D, hD⟩ : ∃ D : Bool, D = decide (f = 0 ∧ 0 < t) := ⟨_, rfl⟩
  obtain ⟨U, hU⟩ : ∃ U : Bool, U = decide (t = 0 ∧ 0 < f) := ⟨_, rfl⟩
  have HD := Lib.hid hD
  have HU := Lib.hid hU
  clear hD hU
  unfold sgC
  have K := Bk.new w 34 #[.int .i64 k, .int .i64 t, .int .i64 f, .int .i64 h, .int .i64 ep, .int .i64 bo, .int .i64 sq, .int .i64 ac, .slice A N c]
  have hb := (Below.refl w.heap.size w).push (.cells #[.int .i64 k, .int .i64 t, .int .i64 f, .int .i64 h, .int .i64 ep, .int .i64 bo, .int .i64 sq, .int .i64 ac, .slice A N c] 34)
  go_enter Try.func27, Try.ntmps27
  go_upto_region 1 with fail
  generalize w.alloc _ = w1 at K hb ⊢
  obtain ⟨c0, c1, c2, c3, c4, c5, c6, c7, c8, f0⟩ := K.nine
  go_upto_region 2 with (go_at_call 63; refine (has_any _ _).mono ?_; rintro e w2 ⟨rfl, rfl⟩)
  go_cut [5, 6] (fun s5 s6 wx => s5 = .bool D ∧ s6 = .bool U ∧ Bk wx w.heap.size 34 #[.int .i64 k, .int .i64 t, .int .i64 f, .int .i64 h, .int .i64 ep, .int .i64 bo, .int .i64 sq, .int .i64 ac, .slice A N c] ∧ Below w.heap.size w wx)
  case first =>
    have hD := HD.out
    have hU := HU.out
    by_cases ht : t = 0
    · have e1 : (t == 0) = true := by simpa using ht
      by_cases hf : f = 0
      · have e2 : (f == 0) = true := by simpa using hf
        subst ht hf
        obtain rfl : D = false := by simp [hD]
        obtain rfl : U = false := by simp [hU]
        clear hD hU HD HU
        go_quiet (fail)
        go_wp2
        go_meet
        exact ⟨rfl, rfl, K.drewN _, below_drewN hb _⟩
      · have e2 : (f == 0) = false := by simpa using hf
        have eD : D = false := by simp [hD, hf]
        have eU : U = decide (0 < f) := by simp [hU, ht]
        clear hD hU HD HU
        subst ht eD eU
        go_quiet (fail)
        go_wp2
        go_meet
        exact ⟨rfl, rfl, K.drewN _, below_drewN hb _⟩
    · have e1 : (t == 0) = false := by simpa using ht
      by_cases hf : f = 0
      · have e2 : (f == 0) = true := by simpa using hf
        have eD : D = decide (0 < t) := by simp [hD, hf]
        have eU : U = false := by simp [hU, ht]
        clear hD hU HD HU
        subst hf eD eU
        go_quiet (fail)
        go_wp2
        go_meet
        exact ⟨rfl, rfl, K.drewN _, below_drewN hb _⟩
      · have e2 : (f == 0) = false := by simpa using hf
        have eD : D = false := by simp [hD, hf]
        have eU : U = false := by simp [hU, ht]
        clear hD hU HD HU
        subst eD eU
        go_quiet (fail)
        go_wp2
        go_meet
        exact ⟨rfl, rfl, K.drewN _, below_drewN hb _⟩
  case rest =>
    obtain ⟨rfl, rfl, K, hb⟩ := hcut
    clear c0 c1 c2 c3 c4 c5 c6 c7 c8 f0
    generalize hq : wc = w2 at *
    clear hq
    obtain ⟨c0, c1, c2, c3, c4, c5, c6, c7, c8, f0⟩ := K.nine
    have OKI := @ok_in k t f h ep bo sq ac N
    have OK := Lib.hid OKI
    clear OKI
    rcases Bool.eq_false_or_eq_true (hasI k) with hI | hI
    all_goals simp only [hI]
    all_goals go_upto_region 10 with (first | (go_at_call 64; refine (within2 6 t f _ _ _ K).mono ?_; rintro e w3 ⟨rfl, K, hb3⟩; have hb := hb.next hb3; obtain ⟨c0, c1, c2, c3, c4, c5, c6, c7, c8, f0⟩ := K.nine; rcases Bool.eq_false_or_eq_true (in2 6 t f) with hx1 | hx1; all_goals simp only [hx1]) | (go_at_call 64; refine (within1 12 h _ _ _ K).mono ?_; rintro e w3 ⟨rfl, K, hb3⟩; have hb := hb.next hb3; obtain ⟨c0, c1, c2, c3, c4, c5, c6, c7, c8, f0⟩ := K.nine; rcases Bool.eq_false_or_eq_true (in1 12 h) with hx2 | hx2; all_goals simp only [hx2]) | (go_at_call 64; refine (within2 4294967295 ep bo _ _ _ K).mono ?_; rintro e w3 ⟨rfl, K, hb3⟩; have hb := hb.next hb3; obtain ⟨c0, c1, c2, c3, c4, c5, c6, c7, c8, f0⟩ := K.nine; rcases Bool.eq_false_or_eq_true (in2 4294967295 ep bo) with hx3 | hx3; all_goals simp only [hx3]) | (go_at_call 64; refine (within2 65535 sq ac _ _ _ K).mono ?_; rintro e w3 ⟨rfl, K, hb3⟩; have hb := hb.next hb3; obtain ⟨c0, c1, c2, c3, c4, c5, c6, c7, c8, f0⟩ := K.nine; rcases Bool.eq_false_or_eq_true (in2 65535 sq ac) with hx4 | hx4; all_goals simp only [hx4]))
    all_goals (first | (go_ret; refine ⟨ret_i (sgE_no (fun hok => ?_)).symm, hb⟩; have ok := OK.out hok; clear c0 c1 c2 c3 c4 c5 c6 c7 c8 f0; (first | omega | (simp_all; done))) | skip)
    have a1 := in2_iff.1 hx1
    have a2 := in1_iff.1 hx2
    have a3 := in2_iff.1 hx3
    have a4 := in2_iff.1 hx4
    have hD := HD.out
    have hU := HU.out
    have hk : 1 ≤ k ∧ k ≤ 5 := by simpa [hasI] using hI
    clear hx1 hx2 hx3 hx4 hI OK HD HU
    by_cases d1 : f = 0 ∧ 0 < t
    · obtain ⟨rfl, ht⟩ := d1
      obtain rfl : D = true := by simp [hD, ht]
      obtain rfl : U = false := by simp [hU]
      clear hD hU
      obtain rfl | rfl | rfl | rfl | rfl : k = 1 ∨ k = 2 ∨ k = 3 ∨ k = 4 ∨ k = 5 := by omega
      · simp only [show hasB 1 = 32 from rfl]
        have q32 : bits BinOp.and IntKind.i64 32 32 = 32 := by decide
        have q64 : bits BinOp.and IntKind.i64 32 64 = 0 := by decide
        have q1 : bits BinOp.and IntKind.i64 32 1 = 0 := by decide
        have q16 : bits BinOp.and IntKind.i64 32 16 = 0 := by decide
        have q2 : bits BinOp.and IntKind.i64 32 2 = 0 := by decide
        have q4 : bits BinOp.and IntKind.i64 32 4 = 0 := by decide
        have q8 : bits BinOp.and IntKind.i64 32 8 = 0 := by decide
        go_wp2_with fail
        all_goals (go_ret; refine ⟨ret_i ?_, hb⟩; clear K c0 c1 c2 c3 c4 c5 c6 c7 c8 f0 q32 q64 q1 q16 q2 q4 q8; (try simp at *); (first | exact (sgE_ok (by unfold SgOk; omega)).symm | exact (sgE_no (by unfold SgOk; omega)).symm))
      · simp only [show hasB 2 = 66 from rfl]
        have q32 : bits BinOp.and IntKind.i64 66 32 = 0 := by decide
        have q64 : bits BinOp.and IntKind.i64 66 64 = 64 := by decide
        have q1 : bits BinOp.and IntKind.i64 66 1 = 0 := by decide
        have q16 : bits BinOp.and IntKind.i64 66 16 = 0 := by decide
        have q2 : bits BinOp.and IntKind.i64 66 2 = 2 := by decide
        have q4 : bits BinOp.and IntKind.i64 66 4 = 0 := by decide
        have q8 : bits BinOp.and IntKind.i64 66 8 = 0 := by decide
        go_wp2_with fail
        all_goals (go_ret; refine ⟨ret_i ?_, hb⟩; clear K c0 c1 c2 c3 c4 c5 c6 c7 c8 f0 q32 q64 q1 q16 q2 q4 q8; (try simp at *); (first | exact (sgE_ok (by unfold SgOk; omega)).symm | exact (sgE_no (by unfold SgOk; omega)).symm))
      · simp only [show hasB 3 = 35 from rfl]
        have q32 : bits BinOp.and IntKind.i64 35 32 = 32 := by decide
        have q64 : bits BinOp.and IntKind.i64 35 64 = 0 := by decide
        have q1 : bits BinOp.and IntKind.i64 35 1 = 1 := by decide
        have q16 : bits BinOp.and IntKind.i64 35 16 = 0 := by decide
        have q2 : bits BinOp.and IntKind.i64 35 2 = 2 := by decide
        have q4 : bits BinOp.and IntKind.i64 35 4 = 0 := by decide
        have q8 : bits BinOp.and IntKind.i64 35 8 = 0 := by decide
        go_wp2_with fail
        all_goals (go_ret; refine ⟨ret_i ?_, hb⟩; clear K c0 c1 c2 c3 c4 c5 c6 c7 c8 f0 q32 q64 q1 q16 q2 q4 q8; (try simp at *); (first | exact (sgE_ok (by unfold SgOk; omega)).symm | exact (sgE_no (by unfold SgOk; omega)).symm))
      · simp only [show hasB 4 = 105 from rfl]
        have q32 : bits BinOp.and IntKind.i64 105 32 = 32 := by decide
        have q64 : bits BinOp.and IntKind.i64 105 64 = 64 := by decide
        have q1 : bits BinOp.and IntKind.i64 105 1 = 1 := by decide
        have q16 : bits BinOp.and IntKind.i64 105 16 = 0 := by decide
        have q2 : bits BinOp.and IntKind.i64 105 2 = 0 := by decide
        have q4 : bits BinOp.and IntKind.i64 105 4 = 0 := by decide
        have q8 : bits BinOp.and IntKind.i64 105 8 = 8 := by decide
        go_wp2_with fail
        all_goals (go_ret; refine ⟨ret_i ?_, hb⟩; clear K c0 c1 c2 c3 c4 c5 c6 c7 c8 f0 q32 q64 q1 q16 q2 q4 q8; (try simp at *); (first | exact (sgE_ok (by unfold SgOk; omega)).symm | exact (sgE_no (by unfold SgOk; omega)).symm))
      · simp only [show hasB 5 = 117 from rfl]
        have q32 : bits BinOp.and IntKind.i64 117 32 = 32 := by decide
        have q64 : bits BinOp.and IntKind.i64 117 64 = 64 := by decide
        have q1 : bits BinOp.and IntKind.i64 117 1 = 1 := by decide
        have q16 : bits BinOp.and IntKind.i64 117 16 = 16 := by decide
        have q2 : bits BinOp.and IntKind.i64 117 2 = 0 := by decide
        have q4 : bits BinOp.and IntKind.i64 117 4 = 4 := by decide
        have q8 : bits BinOp.and IntKind.i64 117 8 = 0 := by decide
        go_wp2_with fail
        all_goals (go_ret; refine ⟨ret_i ?_, hb⟩; clear K c0 c1 c2 c3 c4 c5 c6 c7 c8 f0 q32 q64 q1 q16 q2 q4 q8; (try simp at *); (first | exact (sgE_ok (by unfold SgOk; omega)).symm | exact (sgE_no (by unfold SgOk; omega)).symm))
    · by_cases d2 : t = 0 ∧ 0 < f
      · obtain ⟨rfl, hf⟩ := d2
        obtain rfl : D = false := by simp [hD]
        obtain rfl : U = true := by simp [hU, hf]
        clear hD hU d1
        obtain rfl | rfl | rfl | rfl | rfl : k = 1 ∨ k = 2 ∨ k = 3 ∨ k = 4 ∨ k = 5 := by omega
        · simp only [show hasB 1 = 32 from rfl]
          have q32 : bits BinOp.and IntKind.i64 32 32 = 32 := by decide
          have q64 : bits BinOp.and IntKind.i64 32 64 = 0 := by decide
          have q1 : bits BinOp.and IntKind.i64 32 1 = 0 := by decide
          have q16 : bits BinOp.and IntKind.i64 32 16 = 0 := by decide
          have q2 : bits BinOp.and IntKind.i64 32 2 = 0 := by decide
          have q4 : bits BinOp.and IntKind.i64 32 4 = 0 := by decide
          have q8 : bits BinOp.and IntKind.i64 32 8 = 0 := by decide
          go_wp2_with fail
          all_goals (go_ret; refine ⟨ret_i ?_, hb⟩; clear K c0 c1 c2 c3 c4 c5 c6 c7 c8 f0 q32 q64 q1 q16 q2 q4 q8; (try simp at *); (first | exact (sgE_ok (by unfold SgOk; omega)).symm | exact (sgE_no (by unfold SgOk; omega)).symm))
        · simp only [show hasB 2 = 66 from rfl]
          have q32 : bits BinOp.and IntKind.i64 66 32 = 0 := by decide
          have q64 : bits BinOp.and IntKind.i64 66 64 = 64 := by decide
          have q1 : bits BinOp.and IntKind.i64 66 1 = 0 := by decide
          have q16 : bits BinOp.and IntKind.i64 66 16 = 0 := by decide
          have q2 : bits BinOp.and IntKind.i64 66 2 = 2 := by decide
          have q4 : bits BinOp.and IntKind.i64 66 4 = 0 := by decide
          have q8 : bits BinOp.and IntKind.i64 66 8 = 0 := by decide
          go_wp2_with fail
          all_goals (go_ret; refine ⟨ret_i ?_, hb⟩; clear K c0 c1 c2 c3 c4 c5 c6 c7 c8 f0 q32 q64 q1 q16 q2 q4 q8; (try simp at *); (first | exact (sgE_ok (by unfold SgOk; omega)).symm | exact (sgE_no (by unfold SgOk; omega)).symm))
        · simp only [show hasB 3 = 35 from rfl]
          have q32 : bits BinOp.and IntKind.i64 35 32 = 32 := by decide
          have q64 : bits BinOp.and IntKind.i64 35 64 = 0 := by decide
          have q1 : bits BinOp.and IntKind.i64 35 1 = 1 := by decide
          have q16 : bits BinOp.and IntKind.i64 35 16 = 0 := by decide
          have q2 : bits BinOp.and IntKind.i64 35 2 = 2 := by decide
          have q4 : bits BinOp.and IntKind.i64 35 4 = 0 := by decide
          have q8 : bits BinOp.and IntKind.i64 35 8 = 0 := by decide
          go_wp2_with fail
          all_goals (go_ret; refine ⟨ret_i ?_, hb⟩; clear K c0 c1 c2 c3 c4 c5 c6 c7 c8 f0 q32 q64 q1 q16 q2 q4 q8; (try simp at *); (first | exact (sgE_ok (by unfold SgOk; omega)).symm | exact (sgE_no (by unfold SgOk; omega)).symm))
        · simp only [show hasB 4 = 105 from rfl]
          have q32 : bits BinOp.and IntKind.i64 105 32 = 32 := by decide
          have q64 : bits BinOp.and IntKind.i64 105 64 = 64 := by decide
          have q1 : bits BinOp.and IntKind.i64 105 1 = 1 := by decide
          have q16 : bits BinOp.and IntKind.i64 105 16 = 0 := by decide
          have q2 : bits BinOp.and IntKind.i64 105 2 = 0 := by decide
          have q4 : bits BinOp.and IntKind.i64 105 4 = 0 := by decide
          have q8 : bits BinOp.and IntKind.i64 105 8 = 8 := by decide
          go_wp2_with fail
          all_goals (go_ret; refine ⟨ret_i ?_, hb⟩; clear K c0 c1 c2 c3 c4 c5 c6 c7 c8 f0 q32 q64 q1 q16 q2 q4 q8; (try simp at *); (first | exact (sgE_ok (by unfold SgOk; omega)).symm | exact (sgE_no (by unfold SgOk; omega)).symm))
        · simp only [show hasB 5 = 117 from rfl]
          have q32 : bits BinOp.and IntKind.i64 117 32 = 32 := by decide
          have q64 : bits BinOp.and IntKind.i64 117 64 = 64 := by decide
          have q1 : bits BinOp.and IntKind.i64 117 1 = 1 := by decide
          have q16 : bits BinOp.and IntKind.i64 117 16 = 16 := by decide
          have q2 : bits BinOp.and IntKind.i64 117 2 = 0 := by decide
          have q4 : bits BinOp.and IntKind.i64 117 4 = 4 := by decide
          have q8 : bits BinOp.and IntKind.i64 117 8 = 0 := by decide
          go_wp2_with fail
          all_goals (go_ret; refine ⟨ret_i ?_, hb⟩; clear K c0 c1 c2 c3 c4 c5 c6 c7 c8 f0 q32 q64 q1 q16 q2 q4 q8; (try simp at *); (first | exact (sgE_ok (by unfold SgOk; omega)).symm | exact (sgE_no (by unfold SgOk; omega)).symm))
      · obtain rfl : D = false := by simpa [hD] using d1
        obtain rfl : U = false := by simpa [hU] using d2
        clear hD hU
        go_wp2_with fail
        all_goals (go_ret; refine ⟨ret_i ?_, hb⟩; exact (sgE_no (by unfold SgOk; omega)).symm)
end Go.Proofs.Ytfnnjaljnfphlaa
