/- SegAgain: its walk. -/
import Derived.Test.YtfnnjaljnfphlaaSga
import Derived.Test.YtfnnjaljnfphlaaSgs
import Derived.Test.YtfnnjaljnfphlaaL04a
import Derived.Test.YtfnnjaljnfphlaaL05
namespace Go.Proofs.Ytfnnjaljnfphlaa
open Go.RowKit
set_option maxRecDepth 100000
set_option maxHeartbeats 4000000
set_option linter.unusedSimpArgs false
set_option linter.unusedVariables false

theorem segAgain_walk (A A2 : Option Addr) (N c N2 C2 : Nat) (l l2 : List UInt8) (w : World) (hl : By w w.heap.size A N l) (hc : N ≤ c) (hl2 : By w w.heap.size A2 N2 l2) (hc2 : N2 ≤ C2) (hN2 : N2 ≤ 140737488355328) :
    Calls Try.prog 12 #[.slice A N c, .slice A2 N2 C2] w fun e w' => e = .returned (.bool true) ∧ Below w.heap.size w w' := by
  go_enter Try.func12, Try.ntmps12
  go_wp2_with fail
  go_loopw [0, 5] (fun v i wr => ∃ (k : Nat) (A : Option Addr) (N c : Nat) (l : List UInt8), k ≤ 2 ∧ i = .int .i64 k ∧ v = .slice A N c ∧ By wr wr.heap.size A N l ∧ N ≤ c ∧ Below w.heap.size w wr)
      (fun _ i _ => 2 - (intOf i).toNat)
  case atStart => exact ⟨0, A, N, c, l, by omega, rfl, rfl, hl, hc, Below.refl _ _⟩
  case round =>
    clear hl hc A N c l
    obtain ⟨k, A, N, c, l, hk, rfl, rfl, hl, hc, hb⟩ := hrel
    by_cases hlt : k < 2
    · have hk2 : ((k : Int) < 2) := by omega
      have PA := sparse_any A N c l wr hl hc
      unfold sgC at PA
      by_cases he : spE l = 0
      · obtain ⟨hok, hB⟩ := sp_again he
        simp only [he, spV_ok he, spL_ok he] at PA
        have HE := Lib.hid he
        clear he
        generalize spQ l = q at hok hB PA
        generalize (spT l).1 = tx at hok hB PA
        obtain ⟨k0, t0, f0', h0, ep, bo, sq, ac⟩ := q
        simp only at hok hB PA
        have PAh := Lib.hid PA
        clear PA
        go_wp2_with fail
        refine PAh.out.mono ?_
        rintro e w1 ⟨A1, N1, d1, rfl, hO1, hb1⟩
        have K1 := Bk.new w1 34 #[.int .i64 k0, .int .i64 t0, .int .i64 f0', .int .i64 h0, .int .i64 ep, .int .i64 bo, .int .i64 sq, .int .i64 ac, .slice A1 N1 d1]
        have hx1 := hO1.by_.boxed (.cells #[.int .i64 k0, .int .i64 t0, .int .i64 f0', .int .i64 h0, .int .i64 ep, .int .i64 bo, .int .i64 sq, .int .i64 ac, .slice A1 N1 d1] 34)
        have hN1 := hO1.len
        subst hN1
        have hl1 := (hl.kept hb1).boxed (.cells #[.int .i64 k0, .int .i64 t0, .int .i64 f0', .int .i64 h0, .int .i64 ep, .int .i64 bo, .int .i64 sq, .int .i64 ac, .slice A1 tx.length d1] 34)
        have hB1 := (hb.next hb1).push (.cells #[.int .i64 k0, .int .i64 t0, .int .i64 f0', .int .i64 h0, .int .i64 ep, .int .i64 bo, .int .i64 sq, .int .i64 ac, .slice A1 tx.length d1] 34)
        have SB := sbytes_any k0 t0 f0' h0 ep bo sq ac A1 tx.length d1 tx _ hx1 hok
        rw [hB] at SB
        unfold sgC at SB
        have SBh := Lib.hid SB
        clear SB hB hok PAh hb1
        obtain ⟨c0, c1, c2, c3, c4, c5, c6, c7, c8, f0⟩ := K1.nine
        go_wp2_with fail
        refine SBh.out.mono ?_
        rintro e w2 ⟨A3, N3, d3, rfl, hO3, hb2⟩
        have hl3 := hl1.kept hb2
        have hO2 := hO3.by_
        have hB2 := hB1.next hb2
        have eqs := eqbytes_any _ _ N3 d3 N c _ _ _ _ _ hO2 hl3
        rw [show (l == l) = true from by simp] at eqs
        have EQ := Lib.hid eqs
        clear eqs c0 c1 c2 c3 c4 c5 c6 c7 c8 f0 K1 SBh
        go_wp2_with fail
        refine EQ.out.mono ?_
        rintro e w3 ⟨rfl, rfl⟩
        go_wp2_with fail
        refine (seal_all A2 N2 C2 3 l2 _ ((hl2.below hB2).more hB2.size) hN2 (by omega)).mono ?_
        rintro e w4 ⟨A4, N4, c4, er, rfl, hO4, hb4⟩
        go_wp2_with fail
        go_roundw
        case rel => exact ⟨k + 1, A4, N4, c4, _, by omega, by go_num, rfl, hO4.by_, hO4.cap, hB2.next hb4⟩
        case measure => simp [intOf]; omega
      · simp only [spV_no he, spL_no he] at PA
        have HE : (spE l == 0) = false := by simpa using he
        generalize spE l = E at HE PA
        have PAh := Lib.hid PA
        clear PA he
        go_wp2_with fail
        refine PAh.out.mono ?_
        rintro e w1 ⟨A1, N1, d1, rfl, hO1, hb1⟩
        have K1 := Bk.new w1 34 #[.int .i64 0, .int .i64 0, .int .i64 0, .int .i64 0, .int .i64 0, .int .i64 0, .int .i64 0, .int .i64 0, .slice A1 N1 d1]
        have hx1 := hO1.by_.boxed (.cells #[.int .i64 0, .int .i64 0, .int .i64 0, .int .i64 0, .int .i64 0, .int .i64 0, .int .i64 0, .int .i64 0, .slice A1 N1 d1] 34)
        have hB1 := (hb.next hb1).push (.cells #[.int .i64 0, .int .i64 0, .int .i64 0, .int .i64 0, .int .i64 0, .int .i64 0, .int .i64 0, .int .i64 0, .slice A1 N1 d1] 34)
        have SM := same_any 0 0 0 0 0 0 0 0 A1 N1 d1 [] 0 0 0 0 0 0 0 0 none 0 0 [] _ hx1 By.empty
        rw [show smB 0 0 0 0 0 0 0 0 [] 0 0 0 0 0 0 0 0 [] = true from by decide] at SM
        unfold sgC at SM
        have SMh := Lib.hid SM
        clear SM PAh
        obtain ⟨c0, c1, c2, c3, c4, c5, c6, c7, c8, f0⟩ := K1.nine
        go_wp2_with fail
        refine SMh.out.mono ?_
        rintro e w2 ⟨rfl, hb2⟩
        have hB2 := hB1.next hb2
        clear c0 c1 c2 c3 c4 c5 c6 c7 c8 f0 K1 SMh
        go_wp2_with fail
        refine (seal_all A2 N2 C2 3 l2 _ ((hl2.below hB2).more hB2.size) hN2 (by omega)).mono ?_
        rintro e w4 ⟨A4, N4, c4, er, rfl, hO4, hb4⟩
        go_wp2_with fail
        go_roundw
        case rel => exact ⟨k + 1, A4, N4, c4, _, by omega, by go_num, rfl, hO4.by_, hO4.cap, hB2.next hb4⟩
        case measure => simp [intOf]; omega
    · obtain rfl : k = 2 := by omega
      go_wp2_with fail
      refine (works05 _).mono ?_
      rintro e w6 ⟨rfl, hb6⟩
      go_wp2_with fail
      go_ret
      exact ⟨rfl, hb.next hb6⟩
end Go.Proofs.Ytfnnjaljnfphlaa
