/- ProbeKnown: its walk. -/
import Derived.Test.YtfnnjaljnfphlaaL4j
namespace Go.Proofs.Ytfnnjaljnfphlaa
open Go.RowKit
set_option maxRecDepth 100000
set_option maxHeartbeats 8000000
set_option linter.unusedSimpArgs false
set_option linter.unusedVariables false

def endsP : Array Value := #[.int .i64 (-9223372036854775808), .int .i64 (-1), .int .i64 0, .int .i64 1, .int .i64 4, .int .i64 5, .int .i64 6, .int .i64 7, .int .i64 255, .int .i64 256, .int .i64 65535, .int .i64 65536, .int .i64 9223372036854775807]
theorem endsP_at {w : World} {g j : Nat} (h : Bk w g 3 endsP) (hj : j < 13) : ∃ n : Int, I64 n ∧ w.cell? ⟨g, j, none⟩ = some (.int .i64 n) := by
  rw [h.cell]
  unfold endsP I64
  match j, hj with
  | 0, _ => exact ⟨_, by omega, rfl⟩
  | 1, _ => exact ⟨_, by omega, rfl⟩
  | 2, _ => exact ⟨_, by omega, rfl⟩
  | 3, _ => exact ⟨_, by omega, rfl⟩
  | 4, _ => exact ⟨_, by omega, rfl⟩
  | 5, _ => exact ⟨_, by omega, rfl⟩
  | 6, _ => exact ⟨_, by omega, rfl⟩
  | 7, _ => exact ⟨_, by omega, rfl⟩
  | 8, _ => exact ⟨_, by omega, rfl⟩
  | 9, _ => exact ⟨_, by omega, rfl⟩
  | 10, _ => exact ⟨_, by omega, rfl⟩
  | 11, _ => exact ⟨_, by omega, rfl⟩
  | 12, _ => exact ⟨_, by omega, rfl⟩
theorem probeKnown_walk (w : World) : Calls Try.prog 8 #[] w fun e w' => e = .returned (.bool true) ∧ Below w.heap.size w w' := by
  have KE := Bk.new w 3 endsP
  have hb := (Below.refl w.heap.size w).push (.cells endsP 3)
  unfold endsP at KE hb
  go_enter Try.func8, Try.ntmps8
  go_upto_region 2 with fail
  generalize w.alloc _ = w1 at KE hb ⊢
  obtain ⟨ge, hge⟩ : ∃ ge, ge = w.heap.size := ⟨_, rfl⟩
  rw [← hge] at KE ⊢
  have hgeh := Lib.hid hge
  have hge1 : w.heap.size ≤ ge := by omega
  clear hge
  go_wp2_with fail
  go_loopw [2] (fun i wr => ∃ j : Nat, j ≤ 13 ∧ i = .int .i64 j ∧ Bk wr ge 3 endsP ∧ Below w.heap.size w wr) (fun i _ => 13 - (intOf i).toNat)
  case atStart => exact ⟨0, by omega, rfl, KE, hb⟩
  case round =>
    clear KE hb
    obtain ⟨j, hj, rfl, KE, hb⟩ := hrel
    obtain ⟨wo1, rfl⟩ : ∃ wo : World, wo = wr := ⟨_, rfl⟩
    by_cases hlt : j < 13
    · have hlt2 : (j : Int) < 13 := by omega
      have hj0 : (0 : Int) ≤ (j : Int) := by omega
      obtain ⟨n, hn, hnc⟩ := endsP_at KE hlt
      have hgl := KE.lt
      have KL := Bk.new wo1 23 #[.int .i64 n, .int .i64 1, .int .i64 0, .int .i64 0, .int .i64 0, .int .i64 1, .int .i64 n, .int .i64 0, .int .i64 0, .int .i64 0, .int .i64 1, .int .i64 1, .int .i64 n, .int .i64 1, .int .i64 0, .int .i64 1, .int .i64 1, .int .i64 1, .int .i64 n, .int .i64 0, .int .i64 6, .int .i64 4, .int .i64 0, .int .i64 0, .int .i64 n, .int .i64 1, .int .i64 1, .int .i64 n, .int .i64 n, .int .i64 0]
      have KE2 := KE.alloc (.cells #[.int .i64 n, .int .i64 1, .int .i64 0, .int .i64 0, .int .i64 0, .int .i64 1, .int .i64 n, .int .i64 0, .int .i64 0, .int .i64 0, .int .i64 1, .int .i64 1, .int .i64 n, .int .i64 1, .int .i64 0, .int .i64 1, .int .i64 1, .int .i64 1, .int .i64 n, .int .i64 0, .int .i64 6, .int .i64 4, .int .i64 0, .int .i64 0, .int .i64 n, .int .i64 1, .int .i64 1, .int .i64 n, .int .i64 n, .int .i64 0] 23)
      have hb2 := hb.push (.cells #[.int .i64 n, .int .i64 1, .int .i64 0, .int .i64 0, .int .i64 0, .int .i64 1, .int .i64 n, .int .i64 0, .int .i64 0, .int .i64 0, .int .i64 1, .int .i64 1, .int .i64 n, .int .i64 1, .int .i64 0, .int .i64 1, .int .i64 1, .int .i64 1, .int .i64 n, .int .i64 0, .int .i64 6, .int .i64 4, .int .i64 0, .int .i64 0, .int .i64 n, .int .i64 1, .int .i64 1, .int .i64 n, .int .i64 n, .int .i64 0] 23)
      go_upto_region 7 with fail
      clear hnc KE hb
      generalize wo1.alloc _ = w2 at KL KE2 hb2 ⊢
      have hgl2 : w.heap.size ≤ wo1.heap.size := by omega
      generalize wo1.heap.size = gl at KL hgl hgl2 ⊢
      go_wp2_with fail
      go_loopw [5] (fun i wr => ∃ q : Nat, q ≤ 6 ∧ i = .int .i64 q ∧ Bk wr gl 23 #[.int .i64 n, .int .i64 1, .int .i64 0, .int .i64 0, .int .i64 0, .int .i64 1, .int .i64 n, .int .i64 0, .int .i64 0, .int .i64 0, .int .i64 1, .int .i64 1, .int .i64 n, .int .i64 1, .int .i64 0, .int .i64 1, .int .i64 1, .int .i64 1, .int .i64 n, .int .i64 0, .int .i64 6, .int .i64 4, .int .i64 0, .int .i64 0, .int .i64 n, .int .i64 1, .int .i64 1, .int .i64 n, .int .i64 n, .int .i64 0] ∧ Bk wr ge 3 endsP ∧ Below w.heap.size w wr) (fun i _ => 6 - (intOf i).toNat)
      case atStart => exact ⟨0, by omega, rfl, KL, KE2, hb2⟩
      case round =>
        clear KL KE2 hb2
        obtain ⟨q, hq, rfl, KL, KE, hb⟩ := hrel
        obtain rfl | rfl | rfl | rfl | rfl | rfl | rfl : q = 0 ∨ q = 1 ∨ q = 2 ∨ q = 3 ∨ q = 4 ∨ q = 5 ∨ q = 6 := by omega
        · have c0 : wr.cell? ⟨gl, 0, none⟩ = some (.int .i64 n) := KL.cell 0
          have c1 : wr.cell? ⟨gl, 1, none⟩ = some (.int .i64 1) := KL.cell 1
          have c2 : wr.cell? ⟨gl, 2, none⟩ = some (.int .i64 0) := KL.cell 2
          have c3 : wr.cell? ⟨gl, 3, none⟩ = some (.int .i64 0) := KL.cell 3
          have c4 : wr.cell? ⟨gl, 4, none⟩ = some (.int .i64 0) := KL.cell 4
          go_wp2_with fail
          refine (probeBytes_walk n 1 0 0 0 _).mono ?_
          rintro e w3 ⟨rfl, hb3⟩
          have KL := KL.kept hb3
          have KE := KE.kept hb3
          have hb := hb.next hb3
          clear c0 c1 c2 c3 c4 hb3
          have c0 : w3.cell? ⟨gl, 0, none⟩ = some (.int .i64 n) := KL.cell 0
          have c1 : w3.cell? ⟨gl, 1, none⟩ = some (.int .i64 1) := KL.cell 1
          have c2 : w3.cell? ⟨gl, 2, none⟩ = some (.int .i64 0) := KL.cell 2
          have c3 : w3.cell? ⟨gl, 3, none⟩ = some (.int .i64 0) := KL.cell 3
          have c4 : w3.cell? ⟨gl, 4, none⟩ = some (.int .i64 0) := KL.cell 4
          go_wp2_with fail
          refine (probeBack_walk n 1 0 0 0 _ hn (by unfold I64; omega) (by unfold I64; omega) (by unfold I64; omega) (by unfold I64; omega)).mono ?_
          rintro e w4 ⟨rfl, hb3⟩
          have KL := KL.kept hb3
          have KE := KE.kept hb3
          have hb := hb.next hb3
          clear c0 c1 c2 c3 c4 hb3
          have c0 : w4.cell? ⟨gl, 0, none⟩ = some (.int .i64 n) := KL.cell 0
          have c1 : w4.cell? ⟨gl, 1, none⟩ = some (.int .i64 1) := KL.cell 1
          have c2 : w4.cell? ⟨gl, 2, none⟩ = some (.int .i64 0) := KL.cell 2
          have c3 : w4.cell? ⟨gl, 3, none⟩ = some (.int .i64 0) := KL.cell 3
          have c4 : w4.cell? ⟨gl, 4, none⟩ = some (.int .i64 0) := KL.cell 4
          go_wp2_with fail
          refine (probeFinds_walk n 1 0 0 0 2 2 _).mono ?_
          rintro e w5 ⟨rfl, hb3⟩
          have KL := KL.kept hb3
          have KE := KE.kept hb3
          have hb := hb.next hb3
          clear c0 c1 c2 c3 c4 hb3
          go_wp2_with fail
          go_roundw
          case rel => exact ⟨1, by omega, by go_num, KL, KE, hb⟩
          case measure => simp [intOf]
        · have c0 : wr.cell? ⟨gl, 5, none⟩ = some (.int .i64 1) := KL.cell 5
          have c1 : wr.cell? ⟨gl, 6, none⟩ = some (.int .i64 n) := KL.cell 6
          have c2 : wr.cell? ⟨gl, 7, none⟩ = some (.int .i64 0) := KL.cell 7
          have c3 : wr.cell? ⟨gl, 8, none⟩ = some (.int .i64 0) := KL.cell 8
          have c4 : wr.cell? ⟨gl, 9, none⟩ = some (.int .i64 0) := KL.cell 9
          go_wp2_with fail
          refine (probeBytes_walk 1 n 0 0 0 _).mono ?_
          rintro e w3 ⟨rfl, hb3⟩
          have KL := KL.kept hb3
          have KE := KE.kept hb3
          have hb := hb.next hb3
          clear c0 c1 c2 c3 c4 hb3
          have c0 : w3.cell? ⟨gl, 5, none⟩ = some (.int .i64 1) := KL.cell 5
          have c1 : w3.cell? ⟨gl, 6, none⟩ = some (.int .i64 n) := KL.cell 6
          have c2 : w3.cell? ⟨gl, 7, none⟩ = some (.int .i64 0) := KL.cell 7
          have c3 : w3.cell? ⟨gl, 8, none⟩ = some (.int .i64 0) := KL.cell 8
          have c4 : w3.cell? ⟨gl, 9, none⟩ = some (.int .i64 0) := KL.cell 9
          go_wp2_with fail
          refine (probeBack_walk 1 n 0 0 0 _ (by unfold I64; omega) hn (by unfold I64; omega) (by unfold I64; omega) (by unfold I64; omega)).mono ?_
          rintro e w4 ⟨rfl, hb3⟩
          have KL := KL.kept hb3
          have KE := KE.kept hb3
          have hb := hb.next hb3
          clear c0 c1 c2 c3 c4 hb3
          have c0 : w4.cell? ⟨gl, 5, none⟩ = some (.int .i64 1) := KL.cell 5
          have c1 : w4.cell? ⟨gl, 6, none⟩ = some (.int .i64 n) := KL.cell 6
          have c2 : w4.cell? ⟨gl, 7, none⟩ = some (.int .i64 0) := KL.cell 7
          have c3 : w4.cell? ⟨gl, 8, none⟩ = some (.int .i64 0) := KL.cell 8
          have c4 : w4.cell? ⟨gl, 9, none⟩ = some (.int .i64 0) := KL.cell 9
          go_wp2_with fail
          refine (probeFinds_walk 1 n 0 0 0 2 2 _).mono ?_
          rintro e w5 ⟨rfl, hb3⟩
          have KL := KL.kept hb3
          have KE := KE.kept hb3
          have hb := hb.next hb3
          clear c0 c1 c2 c3 c4 hb3
          go_wp2_with fail
          go_roundw
          case rel => exact ⟨2, by omega, by go_num, KL, KE, hb⟩
          case measure => simp [intOf]
        · have c0 : wr.cell? ⟨gl, 10, none⟩ = some (.int .i64 1) := KL.cell 10
          have c1 : wr.cell? ⟨gl, 11, none⟩ = some (.int .i64 1) := KL.cell 11
          have c2 : wr.cell? ⟨gl, 12, none⟩ = some (.int .i64 n) := KL.cell 12
          have c3 : wr.cell? ⟨gl, 13, none⟩ = some (.int .i64 1) := KL.cell 13
          have c4 : wr.cell? ⟨gl, 14, none⟩ = some (.int .i64 0) := KL.cell 14
          go_wp2_with fail
          refine (probeBytes_walk 1 1 n 1 0 _).mono ?_
          rintro e w3 ⟨rfl, hb3⟩
          have KL := KL.kept hb3
          have KE := KE.kept hb3
          have hb := hb.next hb3
          clear c0 c1 c2 c3 c4 hb3
          have c0 : w3.cell? ⟨gl, 10, none⟩ = some (.int .i64 1) := KL.cell 10
          have c1 : w3.cell? ⟨gl, 11, none⟩ = some (.int .i64 1) := KL.cell 11
          have c2 : w3.cell? ⟨gl, 12, none⟩ = some (.int .i64 n) := KL.cell 12
          have c3 : w3.cell? ⟨gl, 13, none⟩ = some (.int .i64 1) := KL.cell 13
          have c4 : w3.cell? ⟨gl, 14, none⟩ = some (.int .i64 0) := KL.cell 14
          go_wp2_with fail
          refine (probeBack_walk 1 1 n 1 0 _ (by unfold I64; omega) (by unfold I64; omega) hn (by unfold I64; omega) (by unfold I64; omega)).mono ?_
          rintro e w4 ⟨rfl, hb3⟩
          have KL := KL.kept hb3
          have KE := KE.kept hb3
          have hb := hb.next hb3
          clear c0 c1 c2 c3 c4 hb3
          have c0 : w4.cell? ⟨gl, 10, none⟩ = some (.int .i64 1) := KL.cell 10
          have c1 : w4.cell? ⟨gl, 11, none⟩ = some (.int .i64 1) := KL.cell 11
          have c2 : w4.cell? ⟨gl, 12, none⟩ = some (.int .i64 n) := KL.cell 12
          have c3 : w4.cell? ⟨gl, 13, none⟩ = some (.int .i64 1) := KL.cell 13
          have c4 : w4.cell? ⟨gl, 14, none⟩ = some (.int .i64 0) := KL.cell 14
          go_wp2_with fail
          refine (probeFinds_walk 1 1 n 1 0 2 2 _).mono ?_
          rintro e w5 ⟨rfl, hb3⟩
          have KL := KL.kept hb3
          have KE := KE.kept hb3
          have hb := hb.next hb3
          clear c0 c1 c2 c3 c4 hb3
          go_wp2_with fail
          go_roundw
          case rel => exact ⟨3, by omega, by go_num, KL, KE, hb⟩
          case measure => simp [intOf]
        · have c0 : wr.cell? ⟨gl, 15, none⟩ = some (.int .i64 1) := KL.cell 15
          have c1 : wr.cell? ⟨gl, 16, none⟩ = some (.int .i64 1) := KL.cell 16
          have c2 : wr.cell? ⟨gl, 17, none⟩ = some (.int .i64 1) := KL.cell 17
          have c3 : wr.cell? ⟨gl, 18, none⟩ = some (.int .i64 n) := KL.cell 18
          have c4 : wr.cell? ⟨gl, 19, none⟩ = some (.int .i64 0) := KL.cell 19
          go_wp2_with fail
          refine (probeBytes_walk 1 1 1 n 0 _).mono ?_
          rintro e w3 ⟨rfl, hb3⟩
          have KL := KL.kept hb3
          have KE := KE.kept hb3
          have hb := hb.next hb3
          clear c0 c1 c2 c3 c4 hb3
          have c0 : w3.cell? ⟨gl, 15, none⟩ = some (.int .i64 1) := KL.cell 15
          have c1 : w3.cell? ⟨gl, 16, none⟩ = some (.int .i64 1) := KL.cell 16
          have c2 : w3.cell? ⟨gl, 17, none⟩ = some (.int .i64 1) := KL.cell 17
          have c3 : w3.cell? ⟨gl, 18, none⟩ = some (.int .i64 n) := KL.cell 18
          have c4 : w3.cell? ⟨gl, 19, none⟩ = some (.int .i64 0) := KL.cell 19
          go_wp2_with fail
          refine (probeBack_walk 1 1 1 n 0 _ (by unfold I64; omega) (by unfold I64; omega) (by unfold I64; omega) hn (by unfold I64; omega)).mono ?_
          rintro e w4 ⟨rfl, hb3⟩
          have KL := KL.kept hb3
          have KE := KE.kept hb3
          have hb := hb.next hb3
          clear c0 c1 c2 c3 c4 hb3
          have c0 : w4.cell? ⟨gl, 15, none⟩ = some (.int .i64 1) := KL.cell 15
          have c1 : w4.cell? ⟨gl, 16, none⟩ = some (.int .i64 1) := KL.cell 16
          have c2 : w4.cell? ⟨gl, 17, none⟩ = some (.int .i64 1) := KL.cell 17
          have c3 : w4.cell? ⟨gl, 18, none⟩ = some (.int .i64 n) := KL.cell 18
          have c4 : w4.cell? ⟨gl, 19, none⟩ = some (.int .i64 0) := KL.cell 19
          go_wp2_with fail
          refine (probeFinds_walk 1 1 1 n 0 2 2 _).mono ?_
          rintro e w5 ⟨rfl, hb3⟩
          have KL := KL.kept hb3
          have KE := KE.kept hb3
          have hb := hb.next hb3
          clear c0 c1 c2 c3 c4 hb3
          go_wp2_with fail
          go_roundw
          case rel => exact ⟨4, by omega, by go_num, KL, KE, hb⟩
          case measure => simp [intOf]
        · have c0 : wr.cell? ⟨gl, 20, none⟩ = some (.int .i64 6) := KL.cell 20
          have c1 : wr.cell? ⟨gl, 21, none⟩ = some (.int .i64 4) := KL.cell 21
          have c2 : wr.cell? ⟨gl, 22, none⟩ = some (.int .i64 0) := KL.cell 22
          have c3 : wr.cell? ⟨gl, 23, none⟩ = some (.int .i64 0) := KL.cell 23
          have c4 : wr.cell? ⟨gl, 24, none⟩ = some (.int .i64 n) := KL.cell 24
          go_wp2_with fail
          refine (probeBytes_walk 6 4 0 0 n _).mono ?_
          rintro e w3 ⟨rfl, hb3⟩
          have KL := KL.kept hb3
          have KE := KE.kept hb3
          have hb := hb.next hb3
          clear c0 c1 c2 c3 c4 hb3
          have c0 : w3.cell? ⟨gl, 20, none⟩ = some (.int .i64 6) := KL.cell 20
          have c1 : w3.cell? ⟨gl, 21, none⟩ = some (.int .i64 4) := KL.cell 21
          have c2 : w3.cell? ⟨gl, 22, none⟩ = some (.int .i64 0) := KL.cell 22
          have c3 : w3.cell? ⟨gl, 23, none⟩ = some (.int .i64 0) := KL.cell 23
          have c4 : w3.cell? ⟨gl, 24, none⟩ = some (.int .i64 n) := KL.cell 24
          go_wp2_with fail
          refine (probeBack_walk 6 4 0 0 n _ (by unfold I64; omega) (by unfold I64; omega) (by unfold I64; omega) (by unfold I64; omega) hn).mono ?_
          rintro e w4 ⟨rfl, hb3⟩
          have KL := KL.kept hb3
          have KE := KE.kept hb3
          have hb := hb.next hb3
          clear c0 c1 c2 c3 c4 hb3
          have c0 : w4.cell? ⟨gl, 20, none⟩ = some (.int .i64 6) := KL.cell 20
          have c1 : w4.cell? ⟨gl, 21, none⟩ = some (.int .i64 4) := KL.cell 21
          have c2 : w4.cell? ⟨gl, 22, none⟩ = some (.int .i64 0) := KL.cell 22
          have c3 : w4.cell? ⟨gl, 23, none⟩ = some (.int .i64 0) := KL.cell 23
          have c4 : w4.cell? ⟨gl, 24, none⟩ = some (.int .i64 n) := KL.cell 24
          go_wp2_with fail
          refine (probeFinds_walk 6 4 0 0 n 2 2 _).mono ?_
          rintro e w5 ⟨rfl, hb3⟩
          have KL := KL.kept hb3
          have KE := KE.kept hb3
          have hb := hb.next hb3
          clear c0 c1 c2 c3 c4 hb3
          go_wp2_with fail
          go_roundw
          case rel => exact ⟨5, by omega, by go_num, KL, KE, hb⟩
          case measure => simp [intOf]
        · have c0 : wr.cell? ⟨gl, 25, none⟩ = some (.int .i64 1) := KL.cell 25
          have c1 : wr.cell? ⟨gl, 26, none⟩ = some (.int .i64 1) := KL.cell 26
          have c2 : wr.cell? ⟨gl, 27, none⟩ = some (.int .i64 n) := KL.cell 27
          have c3 : wr.cell? ⟨gl, 28, none⟩ = some (.int .i64 n) := KL.cell 28
          have c4 : wr.cell? ⟨gl, 29, none⟩ = some (.int .i64 0) := KL.cell 29
          go_wp2_with fail
          refine (probeBytes_walk 1 1 n n 0 _).mono ?_
          rintro e w3 ⟨rfl, hb3⟩
          have KL := KL.kept hb3
          have KE := KE.kept hb3
          have hb := hb.next hb3
          clear c0 c1 c2 c3 c4 hb3
          have c0 : w3.cell? ⟨gl, 25, none⟩ = some (.int .i64 1) := KL.cell 25
          have c1 : w3.cell? ⟨gl, 26, none⟩ = some (.int .i64 1) := KL.cell 26
          have c2 : w3.cell? ⟨gl, 27, none⟩ = some (.int .i64 n) := KL.cell 27
          have c3 : w3.cell? ⟨gl, 28, none⟩ = some (.int .i64 n) := KL.cell 28
          have c4 : w3.cell? ⟨gl, 29, none⟩ = some (.int .i64 0) := KL.cell 29
          go_wp2_with fail
          refine (probeBack_walk 1 1 n n 0 _ (by unfold I64; omega) (by unfold I64; omega) hn hn (by unfold I64; omega)).mono ?_
          rintro e w4 ⟨rfl, hb3⟩
          have KL := KL.kept hb3
          have KE := KE.kept hb3
          have hb := hb.next hb3
          clear c0 c1 c2 c3 c4 hb3
          have c0 : w4.cell? ⟨gl, 25, none⟩ = some (.int .i64 1) := KL.cell 25
          have c1 : w4.cell? ⟨gl, 26, none⟩ = some (.int .i64 1) := KL.cell 26
          have c2 : w4.cell? ⟨gl, 27, none⟩ = some (.int .i64 n) := KL.cell 27
          have c3 : w4.cell? ⟨gl, 28, none⟩ = some (.int .i64 n) := KL.cell 28
          have c4 : w4.cell? ⟨gl, 29, none⟩ = some (.int .i64 0) := KL.cell 29
          go_wp2_with fail
          refine (probeFinds_walk 1 1 n n 0 2 2 _).mono ?_
          rintro e w5 ⟨rfl, hb3⟩
          have KL := KL.kept hb3
          have KE := KE.kept hb3
          have hb := hb.next hb3
          clear c0 c1 c2 c3 c4 hb3
          go_wp2_with fail
          go_roundw
          case rel => exact ⟨6, by omega, by go_num, KL, KE, hb⟩
          case measure => simp [intOf]
        · clear KL
          obtain ⟨wo2, rfl⟩ : ∃ wo : World, wo = wr := ⟨_, rfl⟩
          have z0 : I64 0 := by unfold I64; omega
          go_wp2_with fail
          refine (probeFinds_walk 2 2 0 0 0 n 1 _).mono ?_
          rintro e w3 ⟨rfl, hb3⟩
          have KE := KE.kept hb3
          have hb := hb.next hb3
          clear hb3
          go_wp2_with fail
          refine (probeFinds_walk 2 2 0 0 0 1 n _).mono ?_
          rintro e w4 ⟨rfl, hb4⟩
          have KE := KE.kept hb4
          have hb := hb.next hb4
          clear hb4
          go_wp2_with fail
          go_loopw [6] (fun i wr => ∃ q : Nat, q ≤ 4 ∧ i = .int .i64 q ∧ Bk wr ge 3 endsP ∧ Below w.heap.size w wr) (fun i _ => 4 - (intOf i).toNat)
          case atStart => exact ⟨0, by omega, rfl, KE, hb⟩
          case round =>
            clear KE hb
            obtain ⟨q, hq, rfl, KE, hb⟩ := hrel
            have hnb : ∃ cc : UInt8, IntKind.u8.wrap n = (cc.toNat : Int) := ⟨UInt8.ofNat (n % 256).toNat, by rw [IntKind.wrap_u8]; simp; omega⟩
            obtain ⟨cc, hcc⟩ := hnb
            have hcch := Lib.hid hcc
            clear hcc
            obtain rfl | rfl | rfl | rfl | rfl : q = 0 ∨ q = 1 ∨ q = 2 ∨ q = 3 ∨ q = 4 := by omega
            · have KB := Bk.new wr 5 #[.int .u8 1, .int .u8 1, .int .u8 1, .int .u8 1, .int .u8 0, .int .u8 0]
              have KE1 := KE.alloc (.cells #[.int .u8 1, .int .u8 1, .int .u8 1, .int .u8 1, .int .u8 0, .int .u8 0] 5)
              have hb1 := hb.push (.cells #[.int .u8 1, .int .u8 1, .int .u8 1, .int .u8 1, .int .u8 0, .int .u8 0] 5)
              obtain ⟨b0, b1, b2, b3, b4, b5, bf⟩ : (wr.alloc (.cells #[.int .u8 1, .int .u8 1, .int .u8 1, .int .u8 1, .int .u8 0, .int .u8 0] 5)).cell? ⟨wr.heap.size, 0, none⟩ = some (.int .u8 1) ∧ (wr.alloc (.cells #[.int .u8 1, .int .u8 1, .int .u8 1, .int .u8 1, .int .u8 0, .int .u8 0] 5)).cell? ⟨wr.heap.size, 1, none⟩ = some (.int .u8 1) ∧ (wr.alloc (.cells #[.int .u8 1, .int .u8 1, .int .u8 1, .int .u8 1, .int .u8 0, .int .u8 0] 5)).cell? ⟨wr.heap.size, 2, none⟩ = some (.int .u8 1) ∧ (wr.alloc (.cells #[.int .u8 1, .int .u8 1, .int .u8 1, .int .u8 1, .int .u8 0, .int .u8 0] 5)).cell? ⟨wr.heap.size, 3, none⟩ = some (.int .u8 1) ∧ (wr.alloc (.cells #[.int .u8 1, .int .u8 1, .int .u8 1, .int .u8 1, .int .u8 0, .int .u8 0] 5)).cell? ⟨wr.heap.size, 4, none⟩ = some (.int .u8 0) ∧ (wr.alloc (.cells #[.int .u8 1, .int .u8 1, .int .u8 1, .int .u8 1, .int .u8 0, .int .u8 0] 5)).cell? ⟨wr.heap.size, 5, none⟩ = some (.int .u8 0) ∧ (∀ i, (wr.alloc (.cells #[.int .u8 1, .int .u8 1, .int .u8 1, .int .u8 1, .int .u8 0, .int .u8 0] 5)).frozen? ⟨wr.heap.size, i, none⟩ = false) := ⟨KB.cell 0, KB.cell 1, KB.cell 2, KB.cell 3, KB.cell 4, KB.cell 5, KB.frozen⟩
              have hcw := hcch.out
              go_upto_region 19 with fail
              have hy := By.lit wr #[.int .u8 (cc.toNat : Int), .int .u8 1, .int .u8 1, .int .u8 1, .int .u8 0, .int .u8 0] [cc, 1, 1, 1, 0, 0] 6 rfl rfl
              have KE2 := KE.alloc (.cells #[.int .u8 (cc.toNat : Int), .int .u8 1, .int .u8 1, .int .u8 1, .int .u8 0, .int .u8 0] 5)
              have hb2 := hb.push (.cells #[.int .u8 (cc.toNat : Int), .int .u8 1, .int .u8 1, .int .u8 1, .int .u8 0, .int .u8 0] 5)
              clear b0 b1 b2 b3 b4 b5 bf KB KE1 hb1 hcw
              generalize wr.alloc _ = w5 at hy KE2 hb2 ⊢
              generalize wr.heap.size = gb at hy ⊢
              go_wp2_with fail
              refine (seal_any (some ⟨gb, 0, none⟩) 6 6 2 _ _ hy (by omega) (by omega)).mono ?_
              rintro e w6 ⟨A6, N6, c6, rfl, hO6, hb6⟩
              have KE := KE2.kept hb6
              have hb := hb2.next hb6
              have hy := hy.kept hb6
              have hB6 := hO6.by_
              have hc6 := hO6.cap
              have hN6 : N6 ≤ 600 := by have := hO6.len; simp [sealB, be_len] at this; omega
              clear hO6 hb6 KE2 hb2
              go_wp2_with fail
              refine (seal_any (some ⟨gb, 0, none⟩) 6 6 1 _ _ hy (by omega) (by omega)).mono ?_
              rintro e w7 ⟨A7, N7, c7, rfl, hO7, hb7⟩
              have KE := KE.kept hb7
              have hb := hb.next hb7
              have hB6 := hB6.kept hb7
              have hB7 := hO7.by_
              have hc7 := hO7.cap
              have hN7 : N7 ≤ 600 := by have := hO7.len; simp [sealB, be_len] at this; omega
              clear hO7 hb7 hy
              go_wp2_with fail
              refine (probeParses_walk A6 N6 c6 _ _ hB6 hc6 (by omega)).mono ?_
              rintro e w8 ⟨rfl, hb8⟩
              have KE := KE.kept hb8
              have hb := hb.next hb8
              have hB7 := hB7.kept hb8
              clear hb8 hB6
              go_wp2_with fail
              refine (probeParses_walk A7 N7 c7 _ _ hB7 hc7 (by omega)).mono ?_
              rintro e w9 ⟨rfl, hb9⟩
              have KE := KE.kept hb9
              have hb := hb.next hb9
              clear hb9 hB7
              go_wp2_with fail
              go_roundw
              case rel => exact ⟨1, by omega, by go_num, KE, hb⟩
              case measure => simp [intOf]
            · have KB := Bk.new wr 5 #[.int .u8 1, .int .u8 1, .int .u8 1, .int .u8 1, .int .u8 0, .int .u8 0]
              have KE1 := KE.alloc (.cells #[.int .u8 1, .int .u8 1, .int .u8 1, .int .u8 1, .int .u8 0, .int .u8 0] 5)
              have hb1 := hb.push (.cells #[.int .u8 1, .int .u8 1, .int .u8 1, .int .u8 1, .int .u8 0, .int .u8 0] 5)
              obtain ⟨b0, b1, b2, b3, b4, b5, bf⟩ : (wr.alloc (.cells #[.int .u8 1, .int .u8 1, .int .u8 1, .int .u8 1, .int .u8 0, .int .u8 0] 5)).cell? ⟨wr.heap.size, 0, none⟩ = some (.int .u8 1) ∧ (wr.alloc (.cells #[.int .u8 1, .int .u8 1, .int .u8 1, .int .u8 1, .int .u8 0, .int .u8 0] 5)).cell? ⟨wr.heap.size, 1, none⟩ = some (.int .u8 1) ∧ (wr.alloc (.cells #[.int .u8 1, .int .u8 1, .int .u8 1, .int .u8 1, .int .u8 0, .int .u8 0] 5)).cell? ⟨wr.heap.size, 2, none⟩ = some (.int .u8 1) ∧ (wr.alloc (.cells #[.int .u8 1, .int .u8 1, .int .u8 1, .int .u8 1, .int .u8 0, .int .u8 0] 5)).cell? ⟨wr.heap.size, 3, none⟩ = some (.int .u8 1) ∧ (wr.alloc (.cells #[.int .u8 1, .int .u8 1, .int .u8 1, .int .u8 1, .int .u8 0, .int .u8 0] 5)).cell? ⟨wr.heap.size, 4, none⟩ = some (.int .u8 0) ∧ (wr.alloc (.cells #[.int .u8 1, .int .u8 1, .int .u8 1, .int .u8 1, .int .u8 0, .int .u8 0] 5)).cell? ⟨wr.heap.size, 5, none⟩ = some (.int .u8 0) ∧ (∀ i, (wr.alloc (.cells #[.int .u8 1, .int .u8 1, .int .u8 1, .int .u8 1, .int .u8 0, .int .u8 0] 5)).frozen? ⟨wr.heap.size, i, none⟩ = false) := ⟨KB.cell 0, KB.cell 1, KB.cell 2, KB.cell 3, KB.cell 4, KB.cell 5, KB.frozen⟩
              have hcw := hcch.out
              go_upto_region 19 with fail
              have hy := By.lit wr #[.int .u8 1, .int .u8 (cc.toNat : Int), .int .u8 1, .int .u8 1, .int .u8 0, .int .u8 0] [1, cc, 1, 1, 0, 0] 6 rfl rfl
              have KE2 := KE.alloc (.cells #[.int .u8 1, .int .u8 (cc.toNat : Int), .int .u8 1, .int .u8 1, .int .u8 0, .int .u8 0] 5)
              have hb2 := hb.push (.cells #[.int .u8 1, .int .u8 (cc.toNat : Int), .int .u8 1, .int .u8 1, .int .u8 0, .int .u8 0] 5)
              clear b0 b1 b2 b3 b4 b5 bf KB KE1 hb1 hcw
              generalize wr.alloc _ = w5 at hy KE2 hb2 ⊢
              generalize wr.heap.size = gb at hy ⊢
              go_wp2_with fail
              refine (seal_any (some ⟨gb, 0, none⟩) 6 6 2 _ _ hy (by omega) (by omega)).mono ?_
              rintro e w6 ⟨A6, N6, c6, rfl, hO6, hb6⟩
              have KE := KE2.kept hb6
              have hb := hb2.next hb6
              have hy := hy.kept hb6
              have hB6 := hO6.by_
              have hc6 := hO6.cap
              have hN6 : N6 ≤ 600 := by have := hO6.len; simp [sealB, be_len] at this; omega
              clear hO6 hb6 KE2 hb2
              go_wp2_with fail
              refine (seal_any (some ⟨gb, 0, none⟩) 6 6 1 _ _ hy (by omega) (by omega)).mono ?_
              rintro e w7 ⟨A7, N7, c7, rfl, hO7, hb7⟩
              have KE := KE.kept hb7
              have hb := hb.next hb7
              have hB6 := hB6.kept hb7
              have hB7 := hO7.by_
              have hc7 := hO7.cap
              have hN7 : N7 ≤ 600 := by have := hO7.len; simp [sealB, be_len] at this; omega
              clear hO7 hb7 hy
              go_wp2_with fail
              refine (probeParses_walk A6 N6 c6 _ _ hB6 hc6 (by omega)).mono ?_
              rintro e w8 ⟨rfl, hb8⟩
              have KE := KE.kept hb8
              have hb := hb.next hb8
              have hB7 := hB7.kept hb8
              clear hb8 hB6
              go_wp2_with fail
              refine (probeParses_walk A7 N7 c7 _ _ hB7 hc7 (by omega)).mono ?_
              rintro e w9 ⟨rfl, hb9⟩
              have KE := KE.kept hb9
              have hb := hb.next hb9
              clear hb9 hB7
              go_wp2_with fail
              go_roundw
              case rel => exact ⟨2, by omega, by go_num, KE, hb⟩
              case measure => simp [intOf]
            · have KB := Bk.new wr 5 #[.int .u8 1, .int .u8 1, .int .u8 1, .int .u8 1, .int .u8 0, .int .u8 0]
              have KE1 := KE.alloc (.cells #[.int .u8 1, .int .u8 1, .int .u8 1, .int .u8 1, .int .u8 0, .int .u8 0] 5)
              have hb1 := hb.push (.cells #[.int .u8 1, .int .u8 1, .int .u8 1, .int .u8 1, .int .u8 0, .int .u8 0] 5)
              obtain ⟨b0, b1, b2, b3, b4, b5, bf⟩ : (wr.alloc (.cells #[.int .u8 1, .int .u8 1, .int .u8 1, .int .u8 1, .int .u8 0, .int .u8 0] 5)).cell? ⟨wr.heap.size, 0, none⟩ = some (.int .u8 1) ∧ (wr.alloc (.cells #[.int .u8 1, .int .u8 1, .int .u8 1, .int .u8 1, .int .u8 0, .int .u8 0] 5)).cell? ⟨wr.heap.size, 1, none⟩ = some (.int .u8 1) ∧ (wr.alloc (.cells #[.int .u8 1, .int .u8 1, .int .u8 1, .int .u8 1, .int .u8 0, .int .u8 0] 5)).cell? ⟨wr.heap.size, 2, none⟩ = some (.int .u8 1) ∧ (wr.alloc (.cells #[.int .u8 1, .int .u8 1, .int .u8 1, .int .u8 1, .int .u8 0, .int .u8 0] 5)).cell? ⟨wr.heap.size, 3, none⟩ = some (.int .u8 1) ∧ (wr.alloc (.cells #[.int .u8 1, .int .u8 1, .int .u8 1, .int .u8 1, .int .u8 0, .int .u8 0] 5)).cell? ⟨wr.heap.size, 4, none⟩ = some (.int .u8 0) ∧ (wr.alloc (.cells #[.int .u8 1, .int .u8 1, .int .u8 1, .int .u8 1, .int .u8 0, .int .u8 0] 5)).cell? ⟨wr.heap.size, 5, none⟩ = some (.int .u8 0) ∧ (∀ i, (wr.alloc (.cells #[.int .u8 1, .int .u8 1, .int .u8 1, .int .u8 1, .int .u8 0, .int .u8 0] 5)).frozen? ⟨wr.heap.size, i, none⟩ = false) := ⟨KB.cell 0, KB.cell 1, KB.cell 2, KB.cell 3, KB.cell 4, KB.cell 5, KB.frozen⟩
              have hcw := hcch.out
              go_upto_region 19 with fail
              have hy := By.lit wr #[.int .u8 1, .int .u8 1, .int .u8 (cc.toNat : Int), .int .u8 1, .int .u8 0, .int .u8 0] [1, 1, cc, 1, 0, 0] 6 rfl rfl
              have KE2 := KE.alloc (.cells #[.int .u8 1, .int .u8 1, .int .u8 (cc.toNat : Int), .int .u8 1, .int .u8 0, .int .u8 0] 5)
              have hb2 := hb.push (.cells #[.int .u8 1, .int .u8 1, .int .u8 (cc.toNat : Int), .int .u8 1, .int .u8 0, .int .u8 0] 5)
              clear b0 b1 b2 b3 b4 b5 bf KB KE1 hb1 hcw
              generalize wr.alloc _ = w5 at hy KE2 hb2 ⊢
              generalize wr.heap.size = gb at hy ⊢
              go_wp2_with fail
              refine (seal_any (some ⟨gb, 0, none⟩) 6 6 2 _ _ hy (by omega) (by omega)).mono ?_
              rintro e w6 ⟨A6, N6, c6, rfl, hO6, hb6⟩
              have KE := KE2.kept hb6
              have hb := hb2.next hb6
              have hy := hy.kept hb6
              have hB6 := hO6.by_
              have hc6 := hO6.cap
              have hN6 : N6 ≤ 600 := by have := hO6.len; simp [sealB, be_len] at this; omega
              clear hO6 hb6 KE2 hb2
              go_wp2_with fail
              refine (seal_any (some ⟨gb, 0, none⟩) 6 6 1 _ _ hy (by omega) (by omega)).mono ?_
              rintro e w7 ⟨A7, N7, c7, rfl, hO7, hb7⟩
              have KE := KE.kept hb7
              have hb := hb.next hb7
              have hB6 := hB6.kept hb7
              have hB7 := hO7.by_
              have hc7 := hO7.cap
              have hN7 : N7 ≤ 600 := by have := hO7.len; simp [sealB, be_len] at this; omega
              clear hO7 hb7 hy
              go_wp2_with fail
              refine (probeParses_walk A6 N6 c6 _ _ hB6 hc6 (by omega)).mono ?_
              rintro e w8 ⟨rfl, hb8⟩
              have KE := KE.kept hb8
              have hb := hb.next hb8
              have hB7 := hB7.kept hb8
              clear hb8 hB6
              go_wp2_with fail
              refine (probeParses_walk A7 N7 c7 _ _ hB7 hc7 (by omega)).mono ?_
              rintro e w9 ⟨rfl, hb9⟩
              have KE := KE.kept hb9
              have hb := hb.next hb9
              clear hb9 hB7
              go_wp2_with fail
              go_roundw
              case rel => exact ⟨3, by omega, by go_num, KE, hb⟩
              case measure => simp [intOf]
            · have KB := Bk.new wr 5 #[.int .u8 1, .int .u8 1, .int .u8 1, .int .u8 1, .int .u8 0, .int .u8 0]
              have KE1 := KE.alloc (.cells #[.int .u8 1, .int .u8 1, .int .u8 1, .int .u8 1, .int .u8 0, .int .u8 0] 5)
              have hb1 := hb.push (.cells #[.int .u8 1, .int .u8 1, .int .u8 1, .int .u8 1, .int .u8 0, .int .u8 0] 5)
              obtain ⟨b0, b1, b2, b3, b4, b5, bf⟩ : (wr.alloc (.cells #[.int .u8 1, .int .u8 1, .int .u8 1, .int .u8 1, .int .u8 0, .int .u8 0] 5)).cell? ⟨wr.heap.size, 0, none⟩ = some (.int .u8 1) ∧ (wr.alloc (.cells #[.int .u8 1, .int .u8 1, .int .u8 1, .int .u8 1, .int .u8 0, .int .u8 0] 5)).cell? ⟨wr.heap.size, 1, none⟩ = some (.int .u8 1) ∧ (wr.alloc (.cells #[.int .u8 1, .int .u8 1, .int .u8 1, .int .u8 1, .int .u8 0, .int .u8 0] 5)).cell? ⟨wr.heap.size, 2, none⟩ = some (.int .u8 1) ∧ (wr.alloc (.cells #[.int .u8 1, .int .u8 1, .int .u8 1, .int .u8 1, .int .u8 0, .int .u8 0] 5)).cell? ⟨wr.heap.size, 3, none⟩ = some (.int .u8 1) ∧ (wr.alloc (.cells #[.int .u8 1, .int .u8 1, .int .u8 1, .int .u8 1, .int .u8 0, .int .u8 0] 5)).cell? ⟨wr.heap.size, 4, none⟩ = some (.int .u8 0) ∧ (wr.alloc (.cells #[.int .u8 1, .int .u8 1, .int .u8 1, .int .u8 1, .int .u8 0, .int .u8 0] 5)).cell? ⟨wr.heap.size, 5, none⟩ = some (.int .u8 0) ∧ (∀ i, (wr.alloc (.cells #[.int .u8 1, .int .u8 1, .int .u8 1, .int .u8 1, .int .u8 0, .int .u8 0] 5)).frozen? ⟨wr.heap.size, i, none⟩ = false) := ⟨KB.cell 0, KB.cell 1, KB.cell 2, KB.cell 3, KB.cell 4, KB.cell 5, KB.frozen⟩
              have hcw := hcch.out
              go_upto_region 19 with fail
              have hy := By.lit wr #[.int .u8 1, .int .u8 1, .int .u8 1, .int .u8 (cc.toNat : Int), .int .u8 0, .int .u8 0] [1, 1, 1, cc, 0, 0] 6 rfl rfl
              have KE2 := KE.alloc (.cells #[.int .u8 1, .int .u8 1, .int .u8 1, .int .u8 (cc.toNat : Int), .int .u8 0, .int .u8 0] 5)
              have hb2 := hb.push (.cells #[.int .u8 1, .int .u8 1, .int .u8 1, .int .u8 (cc.toNat : Int), .int .u8 0, .int .u8 0] 5)
              clear b0 b1 b2 b3 b4 b5 bf KB KE1 hb1 hcw
              generalize wr.alloc _ = w5 at hy KE2 hb2 ⊢
              generalize wr.heap.size = gb at hy ⊢
              go_wp2_with fail
              refine (seal_any (some ⟨gb, 0, none⟩) 6 6 2 _ _ hy (by omega) (by omega)).mono ?_
              rintro e w6 ⟨A6, N6, c6, rfl, hO6, hb6⟩
              have KE := KE2.kept hb6
              have hb := hb2.next hb6
              have hy := hy.kept hb6
              have hB6 := hO6.by_
              have hc6 := hO6.cap
              have hN6 : N6 ≤ 600 := by have := hO6.len; simp [sealB, be_len] at this; omega
              clear hO6 hb6 KE2 hb2
              go_wp2_with fail
              refine (seal_any (some ⟨gb, 0, none⟩) 6 6 1 _ _ hy (by omega) (by omega)).mono ?_
              rintro e w7 ⟨A7, N7, c7, rfl, hO7, hb7⟩
              have KE := KE.kept hb7
              have hb := hb.next hb7
              have hB6 := hB6.kept hb7
              have hB7 := hO7.by_
              have hc7 := hO7.cap
              have hN7 : N7 ≤ 600 := by have := hO7.len; simp [sealB, be_len] at this; omega
              clear hO7 hb7 hy
              go_wp2_with fail
              refine (probeParses_walk A6 N6 c6 _ _ hB6 hc6 (by omega)).mono ?_
              rintro e w8 ⟨rfl, hb8⟩
              have KE := KE.kept hb8
              have hb := hb.next hb8
              have hB7 := hB7.kept hb8
              clear hb8 hB6
              go_wp2_with fail
              refine (probeParses_walk A7 N7 c7 _ _ hB7 hc7 (by omega)).mono ?_
              rintro e w9 ⟨rfl, hb9⟩
              have KE := KE.kept hb9
              have hb := hb.next hb9
              clear hb9 hB7
              go_wp2_with fail
              go_roundw
              case rel => exact ⟨4, by omega, by go_num, KE, hb⟩
              case measure => simp [intOf]
            · go_wp2_with fail
              go_roundw
              case rel => exact ⟨j + 1, by omega, by go_num, KE, hb⟩
              case measure => simp [intOf]; omega
    · obtain rfl : j = 13 := by omega
      clear KE
      go_wp2_with fail
      refine (works04 _).mono ?_
      rintro e w3 ⟨rfl, hb3⟩
      have hb := hb.next hb3
      go_wp2_with fail
      refine (probeParses_walk none 0 0 [] _ By.empty (by omega) (by omega)).mono ?_
      rintro e w4 ⟨rfl, hb4⟩
      go_wp2_with fail
      go_ret
      exact ⟨rfl, hb.next hb4⟩
end Go.Proofs.Ytfnnjaljnfphlaa
