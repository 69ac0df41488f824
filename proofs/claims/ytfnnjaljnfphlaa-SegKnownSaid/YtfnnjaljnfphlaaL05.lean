/- The helper of the statements on segments: works. -/
import Derived.Test.YtfnnjaljnfphlaaSgb
namespace Go.Proofs.Ytfnnjaljnfphlaa
open Go.RowKit
set_option maxRecDepth 100000
set_option maxHeartbeats 4000000
set_option linter.unusedSimpArgs false
set_option linter.unusedVariables false

theorem sgB_works : sgB 3 2 0 1 3 4 0 0 [] = [3, 3, 2, 0, 1, 0, 0, 0, 3, 0, 0, 0, 4, 0, 0, 0, 0, 0, 0, 247, 23] := by decide +kernel
theorem works05 (w : World) : Calls Try.prog 30 #[] w fun e w' => e = .returned (.bool true) ∧ Below w.heap.size w w' := by
  have p1 : SgOk 3 2 0 1 3 4 0 0 0 := by decide
  have v0 : sgE 1 0 2 0 0 0 0 0 0 = 2 := by decide
  have v1 : sgE 4 1 0 0 0 0 0 0 0 = 2 := by decide
  have v2 : sgE 5 1 0 0 1 0 0 0 0 = 2 := by decide
  have v3 : sgE 2 0 2 0 1 0 0 0 0 = 2 := by decide
  go_enter Try.func30, Try.ntmps30
  go_wp2_with fail
  refine (sbytes_any 3 2 0 1 3 4 0 0 none 0 0 [] _ By.empty p1).mono ?_
  rintro e w1 ⟨A, N, c, rfl, hO, hb1⟩
  rw [sgB_works] at hO
  obtain rfl : 21 = N := hO.len
  have hB := hO.by_
  have hc9 := hO.cap
  clear hO
  have K := Bk.new w1 34 #[.int .i64 1, .int .i64 0, .int .i64 2, .int .i64 0, .int .i64 0, .int .i64 0, .int .i64 0, .int .i64 0, .slice none 0 0, .int .i64 4, .int .i64 1, .int .i64 0, .int .i64 0, .int .i64 0, .int .i64 0, .int .i64 0, .int .i64 0, .slice none 0 0, .int .i64 5, .int .i64 1, .int .i64 0, .int .i64 0, .int .i64 1, .int .i64 0, .int .i64 0, .int .i64 0, .slice none 0 0, .int .i64 2, .int .i64 0, .int .i64 2, .int .i64 0, .int .i64 1, .int .i64 0, .int .i64 0, .int .i64 0, .slice none 0 0]
  have hB := hB.boxed (.cells #[.int .i64 1, .int .i64 0, .int .i64 2, .int .i64 0, .int .i64 0, .int .i64 0, .int .i64 0, .int .i64 0, .slice none 0 0, .int .i64 4, .int .i64 1, .int .i64 0, .int .i64 0, .int .i64 0, .int .i64 0, .int .i64 0, .int .i64 0, .slice none 0 0, .int .i64 5, .int .i64 1, .int .i64 0, .int .i64 0, .int .i64 1, .int .i64 0, .int .i64 0, .int .i64 0, .slice none 0 0, .int .i64 2, .int .i64 0, .int .i64 2, .int .i64 0, .int .i64 1, .int .i64 0, .int .i64 0, .int .i64 0, .slice none 0 0] 34)
  have hb1 := hb1.push (.cells #[.int .i64 1, .int .i64 0, .int .i64 2, .int .i64 0, .int .i64 0, .int .i64 0, .int .i64 0, .int .i64 0, .slice none 0 0, .int .i64 4, .int .i64 1, .int .i64 0, .int .i64 0, .int .i64 0, .int .i64 0, .int .i64 0, .int .i64 0, .slice none 0 0, .int .i64 5, .int .i64 1, .int .i64 0, .int .i64 0, .int .i64 1, .int .i64 0, .int .i64 0, .int .i64 0, .slice none 0 0, .int .i64 2, .int .i64 0, .int .i64 2, .int .i64 0, .int .i64 1, .int .i64 0, .int .i64 0, .int .i64 0, .slice none 0 0] 34)
  go_wp2_with fail
  generalize w1.alloc (.cells #[.int .i64 1, .int .i64 0, .int .i64 2, .int .i64 0, .int .i64 0, .int .i64 0, .int .i64 0, .int .i64 0, .slice none 0 0, .int .i64 4, .int .i64 1, .int .i64 0, .int .i64 0, .int .i64 0, .int .i64 0, .int .i64 0, .int .i64 0, .slice none 0 0, .int .i64 5, .int .i64 1, .int .i64 0, .int .i64 0, .int .i64 1, .int .i64 0, .int .i64 0, .int .i64 0, .slice none 0 0, .int .i64 2, .int .i64 0, .int .i64 2, .int .i64 0, .int .i64 1, .int .i64 0, .int .i64 0, .int .i64 0, .slice none 0 0] 34) = w2 at K hB hb1 ⊢
  generalize w1.heap.size = g at K ⊢

  go_loopw [4] (fun i wr => ∃ k : Nat, k ≤ 4 ∧ i = .int .i64 k ∧ Bk wr g 34 #[.int .i64 1, .int .i64 0, .int .i64 2, .int .i64 0, .int .i64 0, .int .i64 0, .int .i64 0, .int .i64 0, .slice none 0 0, .int .i64 4, .int .i64 1, .int .i64 0, .int .i64 0, .int .i64 0, .int .i64 0, .int .i64 0, .int .i64 0, .slice none 0 0, .int .i64 5, .int .i64 1, .int .i64 0, .int .i64 0, .int .i64 1, .int .i64 0, .int .i64 0, .int .i64 0, .slice none 0 0, .int .i64 2, .int .i64 0, .int .i64 2, .int .i64 0, .int .i64 1, .int .i64 0, .int .i64 0, .int .i64 0, .slice none 0 0] ∧ By wr wr.heap.size A 21 [3, 3, 2, 0, 1, 0, 0, 0, 3, 0, 0, 0, 4, 0, 0, 0, 0, 0, 0, 247, 23] ∧ Below w.heap.size w wr) (fun i _ => 4 - (intOf i).toNat)
  case atStart => exact ⟨0, by omega, rfl, K, hB, hb1⟩
  case round =>
    clear K hB hb1
    obtain ⟨k, hk, rfl, K, hB, hb1⟩ := hrel
    obtain rfl | rfl | rfl | rfl | rfl : k = 0 ∨ k = 1 ∨ k = 2 ∨ k = 3 ∨ k = 4 := by omega
    · have c0 : wr.cell? ⟨g, 0, none⟩ = some (.int .i64 1) := K.cell 0
      have c1 : wr.cell? ⟨g, 1, none⟩ = some (.int .i64 0) := K.cell 1
      have c2 : wr.cell? ⟨g, 2, none⟩ = some (.int .i64 2) := K.cell 2
      have c3 : wr.cell? ⟨g, 3, none⟩ = some (.int .i64 0) := K.cell 3
      have c4 : wr.cell? ⟨g, 4, none⟩ = some (.int .i64 0) := K.cell 4
      have c5 : wr.cell? ⟨g, 5, none⟩ = some (.int .i64 0) := K.cell 5
      have c6 : wr.cell? ⟨g, 6, none⟩ = some (.int .i64 0) := K.cell 6
      have c7 : wr.cell? ⟨g, 7, none⟩ = some (.int .i64 0) := K.cell 7
      have c8 : wr.cell? ⟨g, 8, none⟩ = some (.slice none 0 0) := K.cell 8
      go_wp2_with fail
      refine (scheck_any 1 0 2 0 0 0 0 0 none 0 0 _).mono ?_
      rintro e w3 ⟨rfl, hb3⟩
      simp only [v0]
      go_wp2_with fail
      go_roundw
      case rel => exact ⟨1, by omega, by go_num, K.kept hb3, hB.kept hb3, hb1.next hb3⟩
      case measure => simp [intOf]
    · have c0 : wr.cell? ⟨g, 9, none⟩ = some (.int .i64 4) := K.cell 9
      have c1 : wr.cell? ⟨g, 10, none⟩ = some (.int .i64 1) := K.cell 10
      have c2 : wr.cell? ⟨g, 11, none⟩ = some (.int .i64 0) := K.cell 11
      have c3 : wr.cell? ⟨g, 12, none⟩ = some (.int .i64 0) := K.cell 12
      have c4 : wr.cell? ⟨g, 13, none⟩ = some (.int .i64 0) := K.cell 13
      have c5 : wr.cell? ⟨g, 14, none⟩ = some (.int .i64 0) := K.cell 14
      have c6 : wr.cell? ⟨g, 15, none⟩ = some (.int .i64 0) := K.cell 15
      have c7 : wr.cell? ⟨g, 16, none⟩ = some (.int .i64 0) := K.cell 16
      have c8 : wr.cell? ⟨g, 17, none⟩ = some (.slice none 0 0) := K.cell 17
      go_wp2_with fail
      refine (scheck_any 4 1 0 0 0 0 0 0 none 0 0 _).mono ?_
      rintro e w3 ⟨rfl, hb3⟩
      simp only [v1]
      go_wp2_with fail
      go_roundw
      case rel => exact ⟨2, by omega, by go_num, K.kept hb3, hB.kept hb3, hb1.next hb3⟩
      case measure => simp [intOf]
    · have c0 : wr.cell? ⟨g, 18, none⟩ = some (.int .i64 5) := K.cell 18
      have c1 : wr.cell? ⟨g, 19, none⟩ = some (.int .i64 1) := K.cell 19
      have c2 : wr.cell? ⟨g, 20, none⟩ = some (.int .i64 0) := K.cell 20
      have c3 : wr.cell? ⟨g, 21, none⟩ = some (.int .i64 0) := K.cell 21
      have c4 : wr.cell? ⟨g, 22, none⟩ = some (.int .i64 1) := K.cell 22
      have c5 : wr.cell? ⟨g, 23, none⟩ = some (.int .i64 0) := K.cell 23
      have c6 : wr.cell? ⟨g, 24, none⟩ = some (.int .i64 0) := K.cell 24
      have c7 : wr.cell? ⟨g, 25, none⟩ = some (.int .i64 0) := K.cell 25
      have c8 : wr.cell? ⟨g, 26, none⟩ = some (.slice none 0 0) := K.cell 26
      go_wp2_with fail
      refine (scheck_any 5 1 0 0 1 0 0 0 none 0 0 _).mono ?_
      rintro e w3 ⟨rfl, hb3⟩
      simp only [v2]
      go_wp2_with fail
      go_roundw
      case rel => exact ⟨3, by omega, by go_num, K.kept hb3, hB.kept hb3, hb1.next hb3⟩
      case measure => simp [intOf]
    · have c0 : wr.cell? ⟨g, 27, none⟩ = some (.int .i64 2) := K.cell 27
      have c1 : wr.cell? ⟨g, 28, none⟩ = some (.int .i64 0) := K.cell 28
      have c2 : wr.cell? ⟨g, 29, none⟩ = some (.int .i64 2) := K.cell 29
      have c3 : wr.cell? ⟨g, 30, none⟩ = some (.int .i64 0) := K.cell 30
      have c4 : wr.cell? ⟨g, 31, none⟩ = some (.int .i64 1) := K.cell 31
      have c5 : wr.cell? ⟨g, 32, none⟩ = some (.int .i64 0) := K.cell 32
      have c6 : wr.cell? ⟨g, 33, none⟩ = some (.int .i64 0) := K.cell 33
      have c7 : wr.cell? ⟨g, 34, none⟩ = some (.int .i64 0) := K.cell 34
      have c8 : wr.cell? ⟨g, 35, none⟩ = some (.slice none 0 0) := K.cell 35
      go_wp2_with fail
      refine (scheck_any 2 0 2 0 1 0 0 0 none 0 0 _).mono ?_
      rintro e w3 ⟨rfl, hb3⟩
      simp only [v3]
      go_wp2_with fail
      go_roundw
      case rel => exact ⟨4, by omega, by go_num, K.kept hb3, hB.kept hb3, hb1.next hb3⟩
      case measure => simp [intOf]
    · go_wp2_with fail
      have hy := (hB.front (k := 19) (by omega)).boxed (.cells #[.int .u8 3, .int .u8 3, .int .u8 2, .int .u8 0, .int .u8 1, .int .u8 0, .int .u8 0, .int .u8 0, .int .u8 3, .int .u8 0, .int .u8 0, .int .u8 0, .int .u8 4, .int .u8 0, .int .u8 0, .int .u8 0, .int .u8 0, .int .u8 0, .int .u8 0] 5)
      have hy2 := By.lit wr #[.int .u8 3, .int .u8 3, .int .u8 2, .int .u8 0, .int .u8 1, .int .u8 0, .int .u8 0, .int .u8 0, .int .u8 3, .int .u8 0, .int .u8 0, .int .u8 0, .int .u8 4, .int .u8 0, .int .u8 0, .int .u8 0, .int .u8 0, .int .u8 0, .int .u8 0] [3, 3, 2, 0, 1, 0, 0, 0, 3, 0, 0, 0, 4, 0, 0, 0, 0, 0, 0] 19 rfl rfl
      have eqs := eqbytes_any _ _ 19 c 19 19 _ _ _ _ _ hy hy2
      rw [show (([3, 3, 2, 0, 1, 0, 0, 0, 3, 0, 0, 0, 4, 0, 0, 0, 0, 0, 0, 247, 23] : List UInt8).take 19 == [3, 3, 2, 0, 1, 0, 0, 0, 3, 0, 0, 0, 4, 0, 0, 0, 0, 0, 0]) = true from by decide +kernel] at eqs
      refine eqs.mono ?_
      rintro e w4 ⟨rfl, rfl⟩
      go_wp2_with fail
      go_ret
      exact ⟨rfl, hb1.push _⟩
end Go.Proofs.Ytfnnjaljnfphlaa
