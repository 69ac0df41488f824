/- The reference of chapter 6: zero, Rule, Check. -/
import Derived.Test.YtfnnjaljnfphlaaOdc
import Derived.Test.YtfnnjaljnfphlaaOpf
import Derived.Deep.DeepCutAuto
namespace Go.Proofs.Ytfnnjaljnfphlaa
open Go.RowKit
set_option maxRecDepth 100000
set_option maxHeartbeats 8000000
set_option linter.unusedSimpArgs false
set_option linter.unusedVariables false

theorem rzero_any (r : Ru) (A : Option Addr) (N c : Nat) (w : World) (hl : r.os.length = N) :
    Calls Try.prog 99 #[.agg (ruC r A N c)] w fun e w' => e = .returned (.bool (ruZ r)) ∧ Below w.heap.size w w' := by
  have K := Bk.new w 51 (ruC r A N c)
  have hb := (Below.refl w.heap.size w).push (.cells (ruC r A N c) 51)
  have hq := bin_z48 r.m
  unfold ruC at K hb ⊢
  have hN0 : ((N : Int) == 0) = (r.os.length == 0) := by rw [hl, Bool.eq_iff_iff]; simp
  have HR := Lib.hid (show ruZ r = (r.k == 0 && r.pr == 0 && r.to == 0 && r.po == 0 && mkZ r.m && r.os.length == 0) from rfl)
  go_enter Try.func99, Try.ntmps99
  go_upto_region 1 with fail
  generalize w.alloc _ = w1 at K hb ⊢
  obtain ⟨c0, c1, c2, c3, c4, c5, c6, c7, c8, c9, c10, c11, c12, f0⟩ := K.r13
  clear hl
  go_wp2_with fail
  all_goals
    go_ret
    refine ⟨ret_b ?_, hb⟩
    clear c0 c1 c2 c3 c4 c5 c6 c7 c8 c9 c10 c11 c12 f0 hq K
    rw [HR.out]
    simp_all

theorem rrule_any (r : Ru) (A : Option Addr) (N c : Nat) (w : World) (hl : Ou w w.heap.size A N r.os) (hN : N ≤ 1000) :
    Calls Try.prog 52 #[.agg (ruC r A N c)] w fun e w' => e = .returned (.int .i64 (erB (ruB r))) ∧ Below w.heap.size w w' := by
  have K := Bk.new w 51 (ruC r A N c)
  have hb := (Below.refl w.heap.size w).push (.cells (ruC r A N c) 51)
  have hlw := hl.boxed (.cells (ruC r A N c) 51)
  have hq := bin_z48 r.m
  unfold ruC at K hb hlw ⊢
  have hlen := Lib.hid hl.len
  clear hl
  go_enter Try.func52, Try.ntmps52
  go_upto_region 1 with fail
  generalize w.alloc _ = w1 at K hb hlw ⊢
  obtain ⟨c0, c1, c2, c3, c4, c5, c6, c7, c8, c9, c10, c11, c12, f0⟩ := K.r13
  by_cases hk2 : r.k = 2
  · have e1 : (r.k == 2) = true := by simpa using hk2
    have HR := Lib.hid (show ruB r = (inB r.to 0 6 && inB r.po 0 4 && r.pr == 0 && mkZ r.m && r.os.length == 0) by rw [ruB, if_pos hk2])
    clear hk2
    have hN0 : ((N : Int) == 0) = (r.os.length == 0) := by rw [hlen.out, Bool.eq_iff_iff]; simp
    go_wp2_with (first | (go_at_call_of 101 (Value.int .i64 r.to); refine (orwithin r.to 0 6 _).mono ?_; rintro e w2 ⟨rfl, rfl⟩) | (go_at_call_of 101 (Value.int .i64 r.po); refine (orwithin r.po 0 4 _).mono ?_; rintro e w2 ⟨rfl, rfl⟩) | (go_at_call 100; refine (ois _ _).mono ?_; rintro e w2 ⟨rfl, rfl⟩))
    all_goals
      go_ret
      refine ⟨ret_i ?_, hb⟩
      clear c0 c1 c2 c3 c4 c5 c6 c7 c8 c9 c10 c11 c12 f0 hq K hlw
      rw [HR.out]
      simp_all [erB]
  · have e1 : (r.k == 2) = false := by simpa using hk2
    obtain ⟨S, hS⟩ : ∃ S, S = (r.k == 1 && inB r.pr 0 65535 && r.to == 0 && r.po == 0 && mkB r.m && decide (r.os.length ≤ 8)) := ⟨_, rfl⟩
    have HR := Lib.hid (show ruB r = (S && r.os.all outB4) by
      rw [hS, ruB, if_neg hk2]
      cases (r.k == 1) <;> cases inB r.pr 0 65535 <;> cases (r.to == 0) <;> cases (r.po == 0) <;> cases mkB r.m <;> cases decide (r.os.length ≤ 8) <;> cases r.os.all outB4 <;> rfl)
    have HS := Lib.hid hS
    clear hS hk2 hq
    have hN8 : decide ((N : Int) ≤ 8) = decide (r.os.length ≤ 8) := by rw [hlen.out, decide_eq_decide]; omega
    have MA := fun w => rmatch_any r.m w
    unfold mkC at MA
    have MAh := Lib.hid MA
    clear MA
    go_upto_region 3 with fail
    go_cut [3] from 36 to 65 (fun s3 wx => s3 = .bool S ∧ Below w.heap.size w wx ∧ Bk wx w.heap.size 51 #[.int .i64 r.k, .int .i64 r.pr, .int .i64 r.to, .int .i64 r.po, .int .i64 r.m.ve, .int .i64 r.m.mp, .int .u8 (r.m.b0.toNat : Int), .int .u8 (r.m.b1.toNat : Int), .int .u8 (r.m.b2.toNat : Int), .int .u8 (r.m.i0.toNat : Int), .int .u8 (r.m.i1.toNat : Int), .int .u8 (r.m.i2.toNat : Int), .slice A N c] ∧ Ou wx wx.heap.size A N r.os)
    case first =>
      rcases Bool.eq_false_or_eq_true (r.k == 1) with h1 | h1
      rotate_left
      · go_wp2_with (first | (go_at_call 101; refine (orwithin r.pr 0 65535 _).mono ?_; rintro e w2 ⟨rfl, rfl⟩; simp only [h2]) | (go_at_call 54; refine (MAh.out _).mono ?_; rintro e w3 ⟨rfl, hb3⟩; simp only [hmk, erB, if_true, Bool.false_eq_true, if_false]; have hb := hb.next hb3; have hlw := hlw.kept hb3; replace K := K.kept hb3; replace c12 := K.cell 12; replace f0 := K.frozen))
        go_meet
        refine ⟨?_, hb, K, hlw⟩
        rw [HS.out]
        simp [*]
      rcases Bool.eq_false_or_eq_true (inB r.pr 0 65535) with h2 | h2
      rotate_left
      · go_wp2_with (first | (go_at_call 101; refine (orwithin r.pr 0 65535 _).mono ?_; rintro e w2 ⟨rfl, rfl⟩; simp only [h2]) | (go_at_call 54; refine (MAh.out _).mono ?_; rintro e w3 ⟨rfl, hb3⟩; simp only [hmk, erB, if_true, Bool.false_eq_true, if_false]; have hb := hb.next hb3; have hlw := hlw.kept hb3; replace K := K.kept hb3; replace c12 := K.cell 12; replace f0 := K.frozen))
        go_meet
        refine ⟨?_, hb, K, hlw⟩
        rw [HS.out]
        simp [*]
      rcases Bool.eq_false_or_eq_true (r.to == 0) with h3 | h3
      rotate_left
      · go_wp2_with (first | (go_at_call 101; refine (orwithin r.pr 0 65535 _).mono ?_; rintro e w2 ⟨rfl, rfl⟩; simp only [h2]) | (go_at_call 54; refine (MAh.out _).mono ?_; rintro e w3 ⟨rfl, hb3⟩; simp only [hmk, erB, if_true, Bool.false_eq_true, if_false]; have hb := hb.next hb3; have hlw := hlw.kept hb3; replace K := K.kept hb3; replace c12 := K.cell 12; replace f0 := K.frozen))
        go_meet
        refine ⟨?_, hb, K, hlw⟩
        rw [HS.out]
        simp [*]
      rcases Bool.eq_false_or_eq_true (r.po == 0) with h4 | h4
      rotate_left
      · go_wp2_with (first | (go_at_call 101; refine (orwithin r.pr 0 65535 _).mono ?_; rintro e w2 ⟨rfl, rfl⟩; simp only [h2]) | (go_at_call 54; refine (MAh.out _).mono ?_; rintro e w3 ⟨rfl, hb3⟩; simp only [hmk, erB, if_true, Bool.false_eq_true, if_false]; have hb := hb.next hb3; have hlw := hlw.kept hb3; replace K := K.kept hb3; replace c12 := K.cell 12; replace f0 := K.frozen))
        go_meet
        refine ⟨?_, hb, K, hlw⟩
        rw [HS.out]
        simp [*]
      rcases Bool.eq_false_or_eq_true (mkB r.m) with hmk | hmk
      rotate_left
      · go_wp2_with (first | (go_at_call 101; refine (orwithin r.pr 0 65535 _).mono ?_; rintro e w2 ⟨rfl, rfl⟩; simp only [h2]) | (go_at_call 54; refine (MAh.out _).mono ?_; rintro e w3 ⟨rfl, hb3⟩; simp only [hmk, erB, if_true, Bool.false_eq_true, if_false]; have hb := hb.next hb3; have hlw := hlw.kept hb3; replace K := K.kept hb3; replace c12 := K.cell 12; replace f0 := K.frozen))
        go_meet
        refine ⟨?_, hb, K, hlw⟩
        rw [HS.out]
        simp [*]
      rcases Bool.eq_false_or_eq_true (decide (r.os.length ≤ 8)) with h6 | h6
      rotate_left
      · go_wp2_with (first | (go_at_call 101; refine (orwithin r.pr 0 65535 _).mono ?_; rintro e w2 ⟨rfl, rfl⟩; simp only [h2]) | (go_at_call 54; refine (MAh.out _).mono ?_; rintro e w3 ⟨rfl, hb3⟩; simp only [hmk, erB, if_true, Bool.false_eq_true, if_false]; have hb := hb.next hb3; have hlw := hlw.kept hb3; replace K := K.kept hb3; replace c12 := K.cell 12; replace f0 := K.frozen))
        go_meet
        refine ⟨?_, hb, K, hlw⟩
        rw [HS.out]
        simp [*]
      go_wp2_with (first | (go_at_call 101; refine (orwithin r.pr 0 65535 _).mono ?_; rintro e w2 ⟨rfl, rfl⟩; simp only [h2]) | (go_at_call 54; refine (MAh.out _).mono ?_; rintro e w3 ⟨rfl, hb3⟩; simp only [hmk, erB, if_true, Bool.false_eq_true, if_false]; have hb := hb.next hb3; have hlw := hlw.kept hb3; replace K := K.kept hb3; replace c12 := K.cell 12; replace f0 := K.frozen))
      go_meet
      refine ⟨?_, hb, K, hlw⟩
      rw [HS.out]
      simp [*]
    case rest =>
      clear c0 c1 c2 c3 c4 c5 c6 c7 c8 c9 c10 c11 c12 f0 K hlw hb MAh HS hN8
      obtain ⟨rfl, hb, K, hlw⟩ := hcut
      go_wp2_with fail
      go_loopw [4, 3] (fun i s wr => ∃ (k : Nat) (Q : Bool), k ≤ N ∧ i = .int .i64 k ∧ s = .bool Q ∧ Below w.heap.size w wr ∧ Bk wr w.heap.size 51 #[.int .i64 r.k, .int .i64 r.pr, .int .i64 r.to, .int .i64 r.po, .int .i64 r.m.ve, .int .i64 r.m.mp, .int .u8 (r.m.b0.toNat : Int), .int .u8 (r.m.b1.toNat : Int), .int .u8 (r.m.b2.toNat : Int), .int .u8 (r.m.i0.toNat : Int), .int .u8 (r.m.i1.toNat : Int), .int .u8 (r.m.i2.toNat : Int), .slice A N c] ∧ Ou wr wr.heap.size A N r.os ∧ Hid (Q = (S && (r.os.take k).all outB4))) (fun i _ _ => N - (intOf i).toNat)
      case atStart => exact ⟨0, S, by omega, rfl, rfl, hb, K, hlw, by show _ = _; simp⟩
      case round =>
        clear hb K hlw
        obtain ⟨k, Q, hk, rfl, rfl, hb, K, hlw, HQ⟩ := hrel
        obtain ⟨wq, hwq⟩ : ∃ q, q = wr := ⟨_, rfl⟩
        subst hwq
        have c12 : wq.cell? ⟨w.heap.size, 12, none⟩ = some (.slice A N c) := K.cell 12
        by_cases hlt : k < N
        · obtain ⟨b, off, p, x, y, z, rfl, hbb, h0, h1, h2, h3, hxk⟩ := hlw.at_ hlt
          have hk2 : (k : Int) < (N : Int) := by omega
          have hk3 : (0 : Int) ≤ (k : Int) := by omega
          rcases Q with _ | _
          · go_wp2_with (go_at_call 100; refine (ois _ _).mono ?_; rintro e w2 ⟨rfl, rfl⟩)
            go_ret
            refine ⟨ret_i ?_, hb⟩
            rw [HR.out, show (S && r.os.all outB4) = false from ?_]
            have hq := HQ.out
            rw [← List.take_append_drop k r.os, List.all_append]
            cases S
            · rfl
            · simp only [Bool.true_and] at hq ⊢
              rw [← hq]; rfl
          · have hQt := Lib.hid (show S = true ∧ (r.os.take k).all outB4 = true by have := HQ.out; simpa using this.symm)
            have hxq := Lib.hid (show (r.os.take (k + 1)).all outB4 = outB4 (p, x, y, z) by
              rw [take_next hxk.out, List.all_append, hQt.out.2]
              simp)
            go_wp2_with (go_at_call 101; refine (orwithin p 0 4 _).mono ?_; rintro e w2 ⟨rfl, rfl⟩)
            go_loopw [6, 3] (fun i s w3 => ∃ (j : Nat) (T : Bool), j ≤ 3 ∧ i = .int .i64 j ∧ s = .bool T ∧ Below wq.heap.size wq w3 ∧ Bk w3 wq.heap.size 65 #[.int .i64 p, .int .i64 x, .int .i64 y, .int .i64 z] ∧ Hid (T = (inB p 0 4 && (decide (j ≤ 0) || inB x (-1) 255) && (decide (j ≤ 1) || inB y (-1) 255) && (decide (j ≤ 2) || inB z (-1) 255)))) (fun i _ _ => 3 - (intOf i).toNat)
            case atStart => exact ⟨0, inB p 0 4, by omega, rfl, rfl, (Below.refl _ _).push _, Bk.new _ _ _, by show _ = _; simp⟩
            case round =>
              clear h0 h1 h2 h3 c12
              obtain ⟨j, T, hj, rfl, rfl, hb6, K6, HT⟩ := hrel
              obtain ⟨w3, hw3⟩ : ∃ q, q = wr := ⟨_, rfl⟩
              subst hw3
              obtain ⟨q0, q1, q2, q3, qf⟩ := K6.four
              obtain rfl | rfl | rfl | rfl : j = 0 ∨ j = 1 ∨ j = 2 ∨ j = 3 := by omega
              · rcases T with _ | _
                · go_wp2_with fail
                  go_roundw
                  case rel => exact ⟨1, false, by omega, by go_num, rfl, hb6, K6, by have := HT.out; simp at this; show _ = _; simp_all⟩
                  case measure => simp [intOf]
                · go_wp2_with (go_at_call 101; refine (orwithin x (-1) 255 _).mono ?_; rintro e w2 ⟨rfl, rfl⟩)
                  go_roundw
                  case rel => exact ⟨1, inB x (-1) 255, by omega, by go_num, rfl, hb6, K6, by have := HT.out; simp at this; show _ = _; simp_all⟩
                  case measure => simp [intOf]
              · rcases T with _ | _
                · go_wp2_with fail
                  go_roundw
                  case rel => exact ⟨2, false, by omega, by go_num, rfl, hb6, K6, by have := HT.out; simp at this; show _ = _; simp_all⟩
                  case measure => simp [intOf]
                · go_wp2_with (go_at_call 101; refine (orwithin y (-1) 255 _).mono ?_; rintro e w2 ⟨rfl, rfl⟩)
                  go_roundw
                  case rel => exact ⟨2, inB y (-1) 255, by omega, by go_num, rfl, hb6, K6, by have := HT.out; simp at this; show _ = _; simp_all⟩
                  case measure => simp [intOf]
              · rcases T with _ | _
                · go_wp2_with fail
                  go_roundw
                  case rel => exact ⟨3, false, by omega, by go_num, rfl, hb6, K6, by have := HT.out; simp at this; show _ = _; simp_all⟩
                  case measure => simp [intOf]
                · go_wp2_with (go_at_call 101; refine (orwithin z (-1) 255 _).mono ?_; rintro e w2 ⟨rfl, rfl⟩)
                  go_roundw
                  case rel => exact ⟨3, inB z (-1) 255, by omega, by go_num, rfl, hb6, K6, by have := HT.out; simp at this; show _ = _; simp_all⟩
                  case measure => simp [intOf]
              · have hTo := Lib.hid (show T = outB4 (p, x, y, z) by rw [HT.out]; simp [outB4])
                go_wp2_with fail
                go_roundw
                case rel =>
                  exact ⟨k + 1, T, by omega, by go_num, rfl, hb.next hb6, K.kept hb6, hlw.kept hb6, by show _ = _; rw [hxq.out, hTo.out, hQt.out.1]; simp⟩
                case measure => simp [intOf]; omega
        · obtain rfl : k = N := by omega
          go_wp2_with (go_at_call 100; refine (ois _ _).mono ?_; rintro e w2 ⟨rfl, rfl⟩)
          go_ret
          refine ⟨ret_i ?_, hb⟩
          rw [HR.out, HQ.out, List.take_of_length_le (Nat.le_of_eq hlen.out)]
end Go.Proofs.Ytfnnjaljnfphlaa
