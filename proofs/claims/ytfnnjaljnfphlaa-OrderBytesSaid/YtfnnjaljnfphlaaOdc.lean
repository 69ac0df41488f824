/- order.Check: may an order be? -/
import Derived.Test.YtfnnjaljnfphlaaOds
namespace Go.Proofs.Ytfnnjaljnfphlaa
open Go.RowKit
set_option maxRecDepth 100000
set_option maxHeartbeats 8000000
set_option linter.unusedSimpArgs false
set_option linter.unusedVariables false

theorem Bk.ld51 {w : World} {b : Nat} {t : TypeId} {o : Or6} {A : Option Addr} {L c : Nat} (h : Bk w b t (orC o A L c)) : (Instr.loadAt 51 (.pointer (some ⟨b, 3, none⟩))).run Try.prog w = .ok (.agg (ruC o.r A L c)) w :=
  h.ldm 3 (ruC o.r A L c) rfl 51 _ Try.underlying51 rfl info51
theorem Bk.oc {w : World} {b : Nat} {t : TypeId} {o : Or6} {A : Option Addr} {L c : Nat} (h : Bk w b t (orC o A L c)) :
    w.cell? ⟨b, 0, none⟩ = some (.int .i64 o.k) ∧ w.cell? ⟨b, 1, none⟩ = some (.int .i64 o.n) ∧ w.cell? ⟨b, 2, none⟩ = some (.int .i64 o.m) ∧ w.cell? ⟨b, 16, none⟩ = some (.int .i64 o.p.f) ∧ w.cell? ⟨b, 17, none⟩ = some (.int .i64 o.p.fp) ∧ w.cell? ⟨b, 18, none⟩ = some (.int .i64 o.p.t) ∧ w.cell? ⟨b, 19, none⟩ = some (.int .i64 o.p.tp) ∧ w.cell? ⟨b, 20, none⟩ = some (.int .i64 o.p.n) ∧ (∀ i, w.frozen? ⟨b, i, none⟩ = false) :=
  ⟨h.cell 0, h.cell 1, h.cell 2, h.cell 16, h.cell 17, h.cell 18, h.cell 19, h.cell 20, h.frozen⟩
theorem prE_iff (p : Pr5) : (prE p.f p.fp p.t p.tp p.n == 0) = decide (PrOk5 p) := by
  by_cases h : PrOk p.f p.fp p.t p.tp p.n
  · rw [prE_ok h]; symm; exact decide_eq_true h
  · rw [prE_no h]; symm; exact decide_eq_false h
theorem check_any (o : Or6) (A : Option Addr) (L c : Nat) (w : World) (hl : Ou w w.heap.size A L o.r.os) :
    Calls Try.prog 49 #[.agg (orC o A L c)] w fun e w' => e = .returned (.int .i64 (erB (orB o))) ∧ Below w.heap.size w w' := by
  have K := Bk.new w 53 (orC o A L c)
  have hb := (Below.refl w.heap.size w).push (.cells (orC o A L c) 53)
  have hlw := hl.boxed (.cells (orC o A L c) 53)
  have hlen := hl.len
  clear hl
  obtain ⟨V, hV⟩ : ∃ V, V = Value.agg (orC o A L c) := ⟨_, rfl⟩
  have hVc : V.cells = orC o A L c := by rw [hV]; rfl
  rw [← hV]
  have hbx : (Instr.box 53 V).run Try.prog w = .ok (.pointer (some ⟨w.heap.size, 0, none⟩)) (w.alloc (.cells (orC o A L c) 53)) := by rw [hV]; rfl
  have hsp := fun w => spare_any o A L c w hlen
  rw [← hV] at hsp
  have hsph := Lib.hid hsp
  clear hsp hVc hlen
  have HV := Lib.hid hV
  clear hV
  obtain ⟨S, hS⟩ : ∃ S, S = spB o := ⟨_, rfl⟩
  rw [← hS] at hsph
  have HS := Lib.hid hS
  clear hS
  go_enter Try.func49, Try.ntmps49
  go_upto_region 1 with ((with_reducible show wpList Try.prog _ _ _ _ _); refine wpL_box 53 (.tmp 0) V rfl rfl rfl hbx ?_)
  clear hbx
  generalize w.alloc _ = w1 at K hb hlw ⊢
  have hld : (Instr.loadAt 53 (.pointer (some ⟨w.heap.size, 0, none⟩))).run Try.prog w1 = .ok V w1 := by rw [HV.out]; exact K.ld53 rfl
  rcases Bool.eq_false_or_eq_true S with hk | hk
  · go_upto_region 3 with (first | (go_at_call 98; refine (hsph.out _).mono ?_; rintro e w2 ⟨rfl, hb2⟩; rw [hk]) | ((with_reducible show wpList Try.prog _ _ _ _ _); refine wpL_load 53 (.tmp 1) _ rfl rfl rfl hld ?_))
    all_goals
      have K := K.kept hb2
      have hb := hb.next hb2
      have hlw := hlw.kept hb2
      clear hld hsph hb2
      clear HV
      obtain ⟨k, n, m, r, p⟩ := o
      have h9 : 1 ≤ k ∧ k ≤ 9 := by
        have h := HS.out
        rw [spB_clr, hk] at h
        have h := (Bool.and_eq_true_iff.1 h.symm).1
        simpa [kindB] using h
      have HK := Lib.hid (hk ▸ HS.out)
      clear HS
      generalize V = V0
      obtain rfl | rfl | rfl | rfl | rfl | rfl | rfl | rfl | rfl : k = 1 ∨ k = 2 ∨ k = 3 ∨ k = 4 ∨ k = 5 ∨ k = 6 ∨ k = 7 ∨ k = 8 ∨ k = 9 := by omega
      · as_aux_lemma =>
        have HO := Lib.hid (show orB ⟨1, n, m, r, p⟩ = true by unfold orB; rw [← HK.out]; simp)
        obtain ⟨c0, c1, c2, c16, c17, c18, c19, c20, f0⟩ := K.oc
        go_wp2_with fail
        all_goals
          go_ret
          refine ⟨ret_i ?_, hb⟩
          clear c0 c1 c2 c16 c17 c18 c19 c20 f0 K
          first | (rw [HO.out]; done) | (rw [HO.out]; simp_all [erB])
      · as_aux_lemma =>
        have HO := Lib.hid (show orB ⟨2, n, m, r, p⟩ = ruB r by unfold orB; rw [← HK.out]; simp)
        obtain ⟨c0, c1, c2, c16, c17, c18, c19, c20, f0⟩ := K.oc
        have hl51 := K.ld51
        have hru := Lib.hid (rule_any r A L c _ hlw)
        go_wp2_with (first | ((with_reducible show wpList Try.prog _ _ _ _ _); refine wpL_load 51 (.tmp 11) _ rfl rfl rfl hl51 ?_) | (go_at_call 44; refine hru.out.mono ?_; rintro e w3 ⟨rfl, hb3⟩))
        all_goals
          go_ret
          exact ⟨ret_i (by rw [HO.out]), hb.next hb3⟩
      · as_aux_lemma =>
        have HO := Lib.hid (show orB ⟨3, n, m, r, p⟩ = ruB r by unfold orB; rw [← HK.out]; simp)
        obtain ⟨c0, c1, c2, c16, c17, c18, c19, c20, f0⟩ := K.oc
        have hl51 := K.ld51
        have hru := Lib.hid (rule_any r A L c _ hlw)
        go_wp2_with (first | ((with_reducible show wpList Try.prog _ _ _ _ _); refine wpL_load 51 (.tmp 11) _ rfl rfl rfl hl51 ?_) | (go_at_call 44; refine hru.out.mono ?_; rintro e w3 ⟨rfl, hb3⟩))
        all_goals
          go_ret
          exact ⟨ret_i (by rw [HO.out]), hb.next hb3⟩
      · as_aux_lemma =>
        have HO := Lib.hid (show orB ⟨4, n, m, r, p⟩ = inB n 0 200 by unfold orB; rw [← HK.out]; simp)
        obtain ⟨c0, c1, c2, c16, c17, c18, c19, c20, f0⟩ := K.oc
        go_wp2_with (first | (go_at_call 85; refine (owithin n 0 200 _).mono ?_; rintro e w3 ⟨rfl, rfl⟩) | (go_at_call 86; refine (oarg _ _).mono ?_; rintro e w3 ⟨rfl, rfl⟩))
        all_goals
          go_ret
          refine ⟨ret_i ?_, hb⟩
          clear c0 c1 c2 c16 c17 c18 c19 c20 f0 K
          first | (rw [HO.out]; done) | (rw [HO.out]; simp_all [erB])
      · as_aux_lemma =>
        have HO := Lib.hid (show orB ⟨5, n, m, r, p⟩ = (inB n 1 4 && inB m 0 65535) by unfold orB; rw [← HK.out]; simp)
        obtain ⟨c0, c1, c2, c16, c17, c18, c19, c20, f0⟩ := K.oc
        go_wp2_with (first | (go_at_call_of 85 (Value.int .i64 n); refine (owithin n 1 4 _).mono ?_; rintro e w3 ⟨rfl, rfl⟩) | (go_at_call_of 85 (Value.int .i64 m); refine (owithin m 0 65535 _).mono ?_; rintro e w3 ⟨rfl, rfl⟩) | (go_at_call 86; refine (oarg _ _).mono ?_; rintro e w3 ⟨rfl, rfl⟩))
        all_goals
          go_ret
          refine ⟨ret_i ?_, hb⟩
          clear c0 c1 c2 c16 c17 c18 c19 c20 f0 K
          first | (rw [HO.out]; done) | (rw [HO.out]; simp_all [erB])
      · as_aux_lemma =>
        have HO := Lib.hid (show orB ⟨6, n, m, r, p⟩ = (inB n 0 4294967295 && inB m 0 65535) by unfold orB; rw [← HK.out]; simp)
        obtain ⟨c0, c1, c2, c16, c17, c18, c19, c20, f0⟩ := K.oc
        go_wp2_with (first | (go_at_call_of 85 (Value.int .i64 n); refine (owithin n 0 4294967295 _).mono ?_; rintro e w3 ⟨rfl, rfl⟩) | (go_at_call_of 85 (Value.int .i64 m); refine (owithin m 0 65535 _).mono ?_; rintro e w3 ⟨rfl, rfl⟩) | (go_at_call 86; refine (oarg _ _).mono ?_; rintro e w3 ⟨rfl, rfl⟩))
        all_goals
          go_ret
          refine ⟨ret_i ?_, hb⟩
          clear c0 c1 c2 c16 c17 c18 c19 c20 f0 K
          first | (rw [HO.out]; done) | (rw [HO.out]; simp_all [erB])
      · as_aux_lemma =>
        have HO := Lib.hid (show orB ⟨7, n, m, r, p⟩ = (inB n 0 4294967295 && inB m 0 65535) by unfold orB; rw [← HK.out]; simp)
        obtain ⟨c0, c1, c2, c16, c17, c18, c19, c20, f0⟩ := K.oc
        go_wp2_with (first | (go_at_call_of 85 (Value.int .i64 n); refine (owithin n 0 4294967295 _).mono ?_; rintro e w3 ⟨rfl, rfl⟩) | (go_at_call_of 85 (Value.int .i64 m); refine (owithin m 0 65535 _).mono ?_; rintro e w3 ⟨rfl, rfl⟩) | (go_at_call 86; refine (oarg _ _).mono ?_; rintro e w3 ⟨rfl, rfl⟩))
        all_goals
          go_ret
          refine ⟨ret_i ?_, hb⟩
          clear c0 c1 c2 c16 c17 c18 c19 c20 f0 K
          first | (rw [HO.out]; done) | (rw [HO.out]; simp_all [erB])
      · as_aux_lemma =>
        have HO := Lib.hid (show orB ⟨8, n, m, r, p⟩ = (decide (PrOk5 p) && decide (0 < p.t)) by unfold orB; rw [← HK.out]; simp)
        obtain ⟨c0, c1, c2, c16, c17, c18, c19, c20, f0⟩ := K.oc
        have hpc := Lib.hid (fun w => pcheck_any p.f p.fp p.t p.tp p.n w)
        have hpe := Lib.hid (prE_iff p)
        generalize prE p.f p.fp p.t p.tp p.n = E at hpc hpe
        go_wp2_with (first | (go_at_call 23; refine (hpc.out _).mono ?_; rintro e w3 ⟨rfl, hb3⟩; have hb := hb.next hb3; replace c18 := (K.kept hb3).oc.2.2.2.2.2.1) | (go_at_call 86; refine (oarg _ _).mono ?_; rintro e w3 ⟨rfl, rfl⟩))
        all_goals
          go_ret
          refine ⟨ret_i ?_, hb⟩
          clear c0 c1 c2 c16 c17 c18 c19 c20 f0 K
          rw [HO.out, ← hpe.out]
          simp_all [erB]
      · as_aux_lemma =>
        have HO := Lib.hid (show orB ⟨9, n, m, r, p⟩ = (inB n 1 4 && inB m 0 1) by unfold orB; rw [← HK.out]; simp)
        obtain ⟨c0, c1, c2, c16, c17, c18, c19, c20, f0⟩ := K.oc
        go_wp2_with (first | (go_at_call_of 85 (Value.int .i64 n); refine (owithin n 1 4 _).mono ?_; rintro e w3 ⟨rfl, rfl⟩) | (go_at_call_of 85 (Value.int .i64 m); refine (owithin m 0 1 _).mono ?_; rintro e w3 ⟨rfl, rfl⟩) | (go_at_call 86; refine (oarg _ _).mono ?_; rintro e w3 ⟨rfl, rfl⟩))
        all_goals
          go_ret
          refine ⟨ret_i ?_, hb⟩
          clear c0 c1 c2 c16 c17 c18 c19 c20 f0 K
          first | (rw [HO.out]; done) | (rw [HO.out]; simp_all [erB])
  · go_wp2_with (first | (go_at_call 98; refine (hsph.out _).mono ?_; rintro e w2 ⟨rfl, hb2⟩; rw [hk]) | ((with_reducible show wpList Try.prog _ _ _ _ _); refine wpL_load 53 (.tmp 1) _ rfl rfl rfl hld ?_))
    all_goals
      go_ret
      refine ⟨ret_i ?_, hb.next hb2⟩
      have := HS.out
      rw [hk] at this
      unfold orB
      rw [← this]
      rfl
end Go.Proofs.Ytfnnjaljnfphlaa
