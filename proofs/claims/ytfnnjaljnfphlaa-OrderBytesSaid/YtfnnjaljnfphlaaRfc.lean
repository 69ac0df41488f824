/- The reference of chapter 6: Check. -/
import Derived.Test.YtfnnjaljnfphlaaRfk
import Derived.Test.YtfnnjaljnfphlaaEqs
namespace Go.Proofs.Ytfnnjaljnfphlaa
open Go.RowKit
set_option maxRecDepth 100000
set_option maxHeartbeats 8000000
set_option linter.unusedSimpArgs false
set_option linter.unusedVariables false

theorem prQ_zero (p : Pr5) : prQ p.f p.fp p.t p.tp p.n 0 0 0 0 0 = prZ p := rfl
theorem rcheck_any (o : Or6) (A : Option Addr) (L c : Nat) (w : World) (hl : Ou w w.heap.size A L o.r.os) (hN : L ≤ 1000) :
    Calls Try.prog 50 #[.agg (orC o A L c)] w fun e w' => e = .returned (.int .i64 (erB (orB o))) ∧ Below w.heap.size w w' := by
  have K := Bk.new w 53 (orC o A L c)
  have hb := (Below.refl w.heap.size w).push (.cells (orC o A L c) 53)
  have hlw := hl.boxed (.cells (orC o A L c) 53)
  have hlen := hl.len
  clear hl
  obtain ⟨V, hV⟩ : ∃ V, V = Value.agg (orC o A L c) := ⟨_, rfl⟩
  rw [← hV]
  have hbx : (Instr.box 53 V).run Try.prog w = .ok (.pointer (some ⟨w.heap.size, 0, none⟩)) (w.alloc (.cells (orC o A L c) 53)) := by rw [hV]; rfl
  clear hV
  obtain ⟨OB, hOB⟩ : ∃ x, x = orB o := ⟨_, rfl⟩
  rw [← hOB]
  have HOB := Lib.hid hOB
  clear hOB
  go_enter Try.func50, Try.ntmps50
  go_upto_region 1 with ((with_reducible show wpList Try.prog _ _ (Oper.mk (some 1) _ _ _ _ _ :: _) _ _); refine wpL_box 53 (.tmp 0) V rfl rfl rfl hbx ?_)
  clear hbx
  generalize w.alloc _ = W at K hb hlw ⊢
  generalize V = V0
  obtain ⟨k, n, m, r, p⟩ := o
  simp only at hlw hlen
  have hz := rzero_any r A L c W hlen
  have hr := rrule_any r A L c W hlw hN
  have hp := bin_ne23 p.f p.fp p.t p.tp p.n 0 0 0 0 0
  rw [prQ_zero] at hp
  clear hlen hN
  have hl51 := K.ld51
  obtain ⟨RB, hRB⟩ : ∃ x, x = ruB r := ⟨_, rfl⟩
  obtain ⟨ZB, hZB⟩ : ∃ x, x = ruZ r := ⟨_, rfl⟩
  obtain ⟨PZ, hPZ⟩ : ∃ x, x = prZ p := ⟨_, rfl⟩
  rw [← hRB] at hr
  rw [← hZB] at hz
  rw [← hPZ] at hp
  have hzh := Lib.hid hz
  have hrh := Lib.hid hr
  have HB := Lib.hid (And.intro hRB (And.intro hZB hPZ))
  clear hz hr hRB hZB hPZ
  obtain ⟨c0, c1, c2, c16, c17, c18, c19, c20, f0⟩ := K.oc
  by_cases h9 : 1 ≤ k ∧ k ≤ 9
  · obtain rfl | rfl | rfl | rfl | rfl | rfl | rfl | rfl | rfl : k = 1 ∨ k = 2 ∨ k = 3 ∨ k = 4 ∨ k = 5 ∨ k = 6 ∨ k = 7 ∨ k = 8 ∨ k = 9 := by omega
    · have HO := Lib.hid (show OB = (n == 0 && m == 0 && PZ && ZB) by
        obtain ⟨hR, hZ, hP⟩ := HB.out
        rw [hZ, hP]
        exact by rw [HOB.out]; simp [orB, spB])
      rcases ZB with _ | _ <;> rcases PZ with _ | _
      all_goals
        go_wp2_with (first | (go_at_call 99; refine hzh.out.mono ?_; rintro e w3 ⟨rfl, hb3⟩; have hb := hb.next hb3; replace K := K.kept hb3; obtain ⟨c0, c1, c2, c16, c17, c18, c19, c20, f0⟩ := K.oc) | ((with_reducible show wpList Try.prog _ _ (Oper.mk (some 24) _ _ _ _ _ :: _) _ _); refine wpL_loadG 51 (.tmp 23) (.pointer (some ⟨w.heap.size, 3, none⟩)) (by rfl) rfl rfl hl51 ?_) | (go_at_call 100; refine (ois _ _).mono ?_; rintro e w3 ⟨rfl, rfl⟩))
      all_goals
        go_ret
        refine ⟨ret_i ?_, hb⟩
        clear c0 c1 c2 c16 c17 c18 c19 c20 f0 K
        have HOo := HO.out
        first | (rw [HOo]; done) | (simp_all [erB]; done) | (rw [HOo]; simp_all [erB]; done) | (subst HOo; simp_all [erB, -decide_eq_true_eq]; omega)
    · have HO := Lib.hid (show OB = (n == 0 && m == 0 && PZ && RB) by
        obtain ⟨hR, hZ, hP⟩ := HB.out
        rw [hR, hP]
        exact by rw [HOB.out]; simp [orB, spB])
      rcases RB with _ | _ <;> rcases PZ with _ | _
      all_goals
        go_wp2_with (first | (go_at_call 52; refine hrh.out.mono ?_; rintro e w3 ⟨rfl, hb3⟩; simp only [erB, if_true, Bool.false_eq_true, if_false]; have hb := hb.next hb3; replace K := K.kept hb3; obtain ⟨c0, c1, c2, c16, c17, c18, c19, c20, f0⟩ := K.oc) | ((with_reducible show wpList Try.prog _ _ (Oper.mk (some 15) _ _ _ _ _ :: _) _ _); refine wpL_loadG 51 (.tmp 14) (.pointer (some ⟨w.heap.size, 3, none⟩)) (by rfl) rfl rfl hl51 ?_) | (go_at_call 100; refine (ois _ _).mono ?_; rintro e w3 ⟨rfl, rfl⟩))
      all_goals
        go_ret
        refine ⟨ret_i ?_, hb⟩
        clear c0 c1 c2 c16 c17 c18 c19 c20 f0 K
        have HOo := HO.out
        first | (rw [HOo]; done) | (simp_all [erB]; done) | (rw [HOo]; simp_all [erB]; done) | (subst HOo; simp_all [erB, -decide_eq_true_eq]; omega)
    · have HO := Lib.hid (show OB = (n == 0 && m == 0 && PZ && RB) by
        obtain ⟨hR, hZ, hP⟩ := HB.out
        rw [hR, hP]
        exact by rw [HOB.out]; simp [orB, spB])
      rcases RB with _ | _ <;> rcases PZ with _ | _
      all_goals
        go_wp2_with (first | (go_at_call 52; refine hrh.out.mono ?_; rintro e w3 ⟨rfl, hb3⟩; simp only [erB, if_true, Bool.false_eq_true, if_false]; have hb := hb.next hb3; replace K := K.kept hb3; obtain ⟨c0, c1, c2, c16, c17, c18, c19, c20, f0⟩ := K.oc) | ((with_reducible show wpList Try.prog _ _ (Oper.mk (some 15) _ _ _ _ _ :: _) _ _); refine wpL_loadG 51 (.tmp 14) (.pointer (some ⟨w.heap.size, 3, none⟩)) (by rfl) rfl rfl hl51 ?_) | (go_at_call 100; refine (ois _ _).mono ?_; rintro e w3 ⟨rfl, rfl⟩))
      all_goals
        go_ret
        refine ⟨ret_i ?_, hb⟩
        clear c0 c1 c2 c16 c17 c18 c19 c20 f0 K
        have HOo := HO.out
        first | (rw [HOo]; done) | (simp_all [erB]; done) | (rw [HOo]; simp_all [erB]; done) | (subst HOo; simp_all [erB, -decide_eq_true_eq]; omega)
    · have HO := Lib.hid (show OB = (m == 0 && PZ && ZB && inB n 0 200) by
        obtain ⟨hR, hZ, hP⟩ := HB.out
        rw [hZ, hP]
        exact by rw [HOB.out]; simp [orB, spB])
      rcases ZB with _ | _ <;> rcases PZ with _ | _
      all_goals
        go_wp2_with (first | (go_at_call 99; refine hzh.out.mono ?_; rintro e w3 ⟨rfl, hb3⟩; have hb := hb.next hb3; replace K := K.kept hb3; obtain ⟨c0, c1, c2, c16, c17, c18, c19, c20, f0⟩ := K.oc) | ((with_reducible show wpList Try.prog _ _ (Oper.mk (some 24) _ _ _ _ _ :: _) _ _); refine wpL_loadG 51 (.tmp 23) (.pointer (some ⟨w.heap.size, 3, none⟩)) (by rfl) rfl rfl hl51 ?_) | (go_at_call_of 101 (Value.int .i64 n); refine (orwithin n 0 200 _).mono ?_; rintro e w3 ⟨rfl, rfl⟩) | (go_at_call 100; refine (ois _ _).mono ?_; rintro e w3 ⟨rfl, rfl⟩))
      all_goals
        go_ret
        refine ⟨ret_i ?_, hb⟩
        clear c0 c1 c2 c16 c17 c18 c19 c20 f0 K
        have HOo := HO.out
        first | (rw [HOo]; done) | (simp_all [erB]; done) | (rw [HOo]; simp_all [erB]; done) | (subst HOo; simp_all [erB, -decide_eq_true_eq]; omega)
    · have HO := Lib.hid (show OB = (PZ && ZB && (inB n 1 4 && inB m 0 65535)) by
        obtain ⟨hR, hZ, hP⟩ := HB.out
        rw [hZ, hP]
        exact by rw [HOB.out]; simp [orB, spB])
      rcases ZB with _ | _ <;> rcases PZ with _ | _
      all_goals
        go_wp2_with (first | (go_at_call 99; refine hzh.out.mono ?_; rintro e w3 ⟨rfl, hb3⟩; have hb := hb.next hb3; replace K := K.kept hb3; obtain ⟨c0, c1, c2, c16, c17, c18, c19, c20, f0⟩ := K.oc) | ((with_reducible show wpList Try.prog _ _ (Oper.mk (some 24) _ _ _ _ _ :: _) _ _); refine wpL_loadG 51 (.tmp 23) (.pointer (some ⟨w.heap.size, 3, none⟩)) (by rfl) rfl rfl hl51 ?_) | (go_at_call_of 101 (Value.int .i64 n); refine (orwithin n 1 4 _).mono ?_; rintro e w3 ⟨rfl, rfl⟩) | (go_at_call_of 101 (Value.int .i64 m); refine (orwithin m 0 65535 _).mono ?_; rintro e w3 ⟨rfl, rfl⟩) | (go_at_call 100; refine (ois _ _).mono ?_; rintro e w3 ⟨rfl, rfl⟩))
      all_goals
        go_ret
        refine ⟨ret_i ?_, hb⟩
        clear c0 c1 c2 c16 c17 c18 c19 c20 f0 K
        have HOo := HO.out
        first | (rw [HOo]; done) | (simp_all [erB]; done) | (rw [HOo]; simp_all [erB]; done) | (subst HOo; simp_all [erB, -decide_eq_true_eq]; omega)
    · have HO := Lib.hid (show OB = (m == 0 && PZ && ZB && inB n 0 4294967295) by
        obtain ⟨hR, hZ, hP⟩ := HB.out
        rw [hZ, hP]
        exact by
          rw [HOB.out]
          rcases Bool.eq_false_or_eq_true (m == 0) with hm | hm
          · have hm0 : m = 0 := by simpa using hm
            subst hm0
            simp [orB, spB, inB]
          · simp [orB, spB, hm])
      rcases ZB with _ | _ <;> rcases PZ with _ | _
      all_goals
        go_wp2_with (first | (go_at_call 99; refine hzh.out.mono ?_; rintro e w3 ⟨rfl, hb3⟩; have hb := hb.next hb3; replace K := K.kept hb3; obtain ⟨c0, c1, c2, c16, c17, c18, c19, c20, f0⟩ := K.oc) | ((with_reducible show wpList Try.prog _ _ (Oper.mk (some 24) _ _ _ _ _ :: _) _ _); refine wpL_loadG 51 (.tmp 23) (.pointer (some ⟨w.heap.size, 3, none⟩)) (by rfl) rfl rfl hl51 ?_) | (go_at_call_of 101 (Value.int .i64 n); refine (orwithin n 0 4294967295 _).mono ?_; rintro e w3 ⟨rfl, rfl⟩) | (go_at_call 100; refine (ois _ _).mono ?_; rintro e w3 ⟨rfl, rfl⟩))
      all_goals
        go_ret
        refine ⟨ret_i ?_, hb⟩
        clear c0 c1 c2 c16 c17 c18 c19 c20 f0 K
        have HOo := HO.out
        first | (rw [HOo]; done) | (simp_all [erB]; done) | (rw [HOo]; simp_all [erB]; done) | (subst HOo; simp_all [erB, -decide_eq_true_eq]; omega)
    · have HO := Lib.hid (show OB = (PZ && ZB && (inB n 0 4294967295 && inB m 0 65535)) by
        obtain ⟨hR, hZ, hP⟩ := HB.out
        rw [hZ, hP]
        exact by rw [HOB.out]; simp [orB, spB])
      rcases ZB with _ | _ <;> rcases PZ with _ | _
      all_goals
        go_wp2_with (first | (go_at_call 99; refine hzh.out.mono ?_; rintro e w3 ⟨rfl, hb3⟩; have hb := hb.next hb3; replace K := K.kept hb3; obtain ⟨c0, c1, c2, c16, c17, c18, c19, c20, f0⟩ := K.oc) | ((with_reducible show wpList Try.prog _ _ (Oper.mk (some 24) _ _ _ _ _ :: _) _ _); refine wpL_loadG 51 (.tmp 23) (.pointer (some ⟨w.heap.size, 3, none⟩)) (by rfl) rfl rfl hl51 ?_) | (go_at_call_of 101 (Value.int .i64 n); refine (orwithin n 0 4294967295 _).mono ?_; rintro e w3 ⟨rfl, rfl⟩) | (go_at_call_of 101 (Value.int .i64 m); refine (orwithin m 0 65535 _).mono ?_; rintro e w3 ⟨rfl, rfl⟩) | (go_at_call 100; refine (ois _ _).mono ?_; rintro e w3 ⟨rfl, rfl⟩))
      all_goals
        go_ret
        refine ⟨ret_i ?_, hb⟩
        clear c0 c1 c2 c16 c17 c18 c19 c20 f0 K
        have HOo := HO.out
        first | (rw [HOo]; done) | (simp_all [erB]; done) | (rw [HOo]; simp_all [erB]; done) | (subst HOo; simp_all [erB, -decide_eq_true_eq]; omega)
    · have HO := Lib.hid (show OB = (n == 0 && m == 0 && ZB && (decide (PrOk5 p) && decide (0 < p.t))) by
        obtain ⟨hR, hZ, hP⟩ := HB.out
        rw [hZ]
        exact by rw [HOB.out]; simp [orB, spB])
      have hpc := Lib.hid (fun w => rpcheck_any p.f p.fp p.t p.tp p.n w)
      have hpe := Lib.hid (prE_iff p)
      generalize prE p.f p.fp p.t p.tp p.n = E at hpc hpe
      have HO := Lib.hid (show OB = (n == 0 && m == 0 && ZB && ((E == 0) && decide (0 < p.t))) by rw [hpe.out]; exact HO.out)
      rcases Bool.eq_false_or_eq_true (E == 0) with hE | hE <;> rcases ZB with _ | _ <;> rcases Bool.eq_false_or_eq_true (decide (0 < p.t)) with ht | ht
      all_goals
        go_wp2_with (first | (go_at_call 99; refine hzh.out.mono ?_; rintro e w3 ⟨rfl, hb3⟩; have hb := hb.next hb3; replace K := K.kept hb3; obtain ⟨c0, c1, c2, c16, c17, c18, c19, c20, f0⟩ := K.oc) | ((with_reducible show wpList Try.prog _ _ (Oper.mk (some 24) _ _ _ _ _ :: _) _ _); refine wpL_loadG 51 (.tmp 23) (.pointer (some ⟨w.heap.size, 3, none⟩)) (by rfl) rfl rfl hl51 ?_) | (go_at_call 82; refine (hpc.out _).mono ?_; rintro e w3 ⟨rfl, hb3⟩; have hb := hb.next hb3; replace K := K.kept hb3; obtain ⟨c0, c1, c2, c16, c17, c18, c19, c20, f0⟩ := K.oc) | (go_at_call 100; refine (ois _ _).mono ?_; rintro e w3 ⟨rfl, rfl⟩))
      all_goals
        go_ret
        refine ⟨ret_i ?_, hb⟩
        clear c0 c1 c2 c16 c17 c18 c19 c20 f0 K
        have HOo := HO.out
        first | (rw [HOo]; done) | (simp_all [erB]; done) | (rw [HOo]; simp_all [erB]; done) | (subst HOo; simp_all [erB, -decide_eq_true_eq]; omega)
    · have HO := Lib.hid (show OB = (PZ && ZB && (inB n 1 4 && inB m 0 1)) by
        obtain ⟨hR, hZ, hP⟩ := HB.out
        rw [hZ, hP]
        exact by rw [HOB.out]; simp [orB, spB])
      rcases ZB with _ | _ <;> rcases PZ with _ | _
      all_goals
        go_wp2_with (first | (go_at_call 99; refine hzh.out.mono ?_; rintro e w3 ⟨rfl, hb3⟩; have hb := hb.next hb3; replace K := K.kept hb3; obtain ⟨c0, c1, c2, c16, c17, c18, c19, c20, f0⟩ := K.oc) | ((with_reducible show wpList Try.prog _ _ (Oper.mk (some 24) _ _ _ _ _ :: _) _ _); refine wpL_loadG 51 (.tmp 23) (.pointer (some ⟨w.heap.size, 3, none⟩)) (by rfl) rfl rfl hl51 ?_) | (go_at_call_of 101 (Value.int .i64 n); refine (orwithin n 1 4 _).mono ?_; rintro e w3 ⟨rfl, rfl⟩) | (go_at_call_of 101 (Value.int .i64 m); refine (orwithin m 0 1 _).mono ?_; rintro e w3 ⟨rfl, rfl⟩) | (go_at_call 100; refine (ois _ _).mono ?_; rintro e w3 ⟨rfl, rfl⟩))
      all_goals
        go_ret
        refine ⟨ret_i ?_, hb⟩
        clear c0 c1 c2 c16 c17 c18 c19 c20 f0 K
        have HOo := HO.out
        first | (rw [HOo]; done) | (simp_all [erB]; done) | (rw [HOo]; simp_all [erB]; done) | (subst HOo; simp_all [erB, -decide_eq_true_eq]; omega)
  · have HO := Lib.hid (show OB = false by
      rw [HOB.out]
      cases h : orB ⟨k, n, m, r, p⟩
      · rfl
      · exact absurd (orB_kind h) h9)
    have e1 : (k == 1) = false := by simp; omega
    have e2 : (k == 2) = false := by simp; omega
    have e3 : (k == 3) = false := by simp; omega
    have e4 : (k == 4) = false := by simp; omega
    have e5 : (k == 5) = false := by simp; omega
    have e6 : (k == 6) = false := by simp; omega
    have e7 : (k == 7) = false := by simp; omega
    have e8 : (k == 8) = false := by simp; omega
    have e9 : (k == 9) = false := by simp; omega
    have e10 : (k != 8) = true := by simp; omega
    rcases ZB with _ | _ <;> rcases PZ with _ | _
    all_goals
      go_wp2_with (first | (go_at_call 99; refine hzh.out.mono ?_; rintro e w3 ⟨rfl, hb3⟩; have hb := hb.next hb3; replace K := K.kept hb3; obtain ⟨c0, c1, c2, c16, c17, c18, c19, c20, f0⟩ := K.oc) | ((with_reducible show wpList Try.prog _ _ (Oper.mk (some 24) _ _ _ _ _ :: _) _ _); refine wpL_loadG 51 (.tmp 23) (.pointer (some ⟨w.heap.size, 3, none⟩)) (by rfl) rfl rfl hl51 ?_))
      go_ret
      exact ⟨ret_i (by rw [HO.out]; rfl), hb⟩
end Go.Proofs.Ytfnnjaljnfphlaa
