/- seg.Bytes, the reference. -/
import Derived.Test.YtfnnjaljnfphlaaSgr
import Derived.Test.YtfnnjaljnfphlaaR01
namespace Go.Proofs.Ytfnnjaljnfphlaa
open Go.RowKit
set_option maxRecDepth 100000
set_option maxHeartbeats 20000000
set_option linter.unusedSimpArgs false
set_option linter.unusedVariables false

theorem rsbytes_any (k t f h ep bo sq ac : Int) (A : Option Addr) (N c : Nat) (l : List UInt8) (w : World) (hl : By w w.heap.size A N l) (hok : SgOk k t f h ep bo sq ac N) :
    Calls Try.prog 26 #[.agg (sgC k t f h ep bo sq ac A N c)] w fun e w' => ∃ A' N' c', e = .returned (.tuple #[.slice A' N' c', .int .i64 0]) ∧ OwnB w' w.heap.size A' N' c' (sgB k t f h ep bo sq ac l) ∧ Below w.heap.size w w' := by
  have H0 := Lib.hid (sgE_ok hok)
  have hlen := Lib.hid hl.len
  have h1 : ∀ x ∈ [k, t, f, h], 0 ≤ x ∧ x < (256 ^ 1 : Nat) := by unfold SgOk at hok; simp; omega
  have h2 : ∀ x ∈ [ep, bo], 0 ≤ x ∧ x < (256 ^ 4 : Nat) := by unfold SgOk at hok; simp; omega
  have h3 : ∀ x ∈ [sq, ac], 0 ≤ x ∧ x < (256 ^ 2 : Nat) := by unfold SgOk at hok; simp; omega
  have hN : N ≤ 256 := by unfold SgOk at hok; omega
  have H1 := Lib.hid h1
  have H2 := Lib.hid h2
  have H3 := Lib.hid h3
  clear h1 h2 h3 hok
  have K := Bk.new w 34 (sgC k t f h ep bo sq ac A N c)
  have hb := (Below.refl w.heap.size w).push (.cells (sgC k t f h ep bo sq ac A N c) 34)
  have hlw := hl.boxed (.cells (sgC k t f h ep bo sq ac A N c) 34)
  unfold sgC at K hb hlw ⊢
  have CHK := fun w => rscheck_below k t f h ep bo sq ac A N c w
  unfold sgC at CHK
  go_enter Try.func26, Try.ntmps26
  go_upto_region 1 with fail
  generalize w.alloc _ = w1 at K hb hlw ⊢
  obtain ⟨c0, c1, c2, c3, c4, c5, c6, c7, c8, f0⟩ := K.nine
  go_wp2_with fail
  refine (CHK _).mono ?_
  rintro e w2 ⟨rfl, hb2⟩
  clear CHK c0 c1 c2 c3 c4 c5 c6 c7 c8 f0
  simp only [H0.out]
  skip
  have K := K.kept hb2
  have hb := hb.next hb2
  have hlw := hlw.kept hb2
  clear hb2
  obtain ⟨c0, c1, c2, c3, c4, c5, c6, c7, c8, f0⟩ := K.nine
  have K := K.alloc (.cells #[.int .i64 k, .int .i64 t, .int .i64 f, .int .i64 h] 3)
  have hb := hb.push (.cells #[.int .i64 k, .int .i64 t, .int .i64 f, .int .i64 h] 3)
  have hlw := hlw.boxed (.cells #[.int .i64 k, .int .i64 t, .int .i64 f, .int .i64 h] 3)
  have I1 : In (w2.alloc (.cells #[.int .i64 k, .int .i64 t, .int .i64 f, .int .i64 h] 3)) (w2.alloc (.cells #[.int .i64 k, .int .i64 t, .int .i64 f, .int .i64 h] 3)).heap.size (some ⟨w2.heap.size, 0, none⟩) 4 [k, t, f, h] := (Bk.new w2 3 #[.int .i64 k, .int .i64 t, .int .i64 f, .int .i64 h]).rd (n := 4) (size := 1) rfl
  go_wp2_with fail
  refine (rputs none (some ⟨w2.heap.size, 0, none⟩) 0 0 4 4 1 [] [k, t, f, h] _ By.empty I1 (by omega) (by omega) (by omega) H1.out).mono ?_
  rintro e w3 ⟨A3, N3, c3', rfl, hO3, hb3⟩
  have hN3 := Lib.hid (show N3 = 4 from by have := hO3.len; simpa [be_len] using this.symm)
  have K := K.kept hb3
  have hb := hb.next hb3
  have hlw := hlw.kept hb3
  have hO := hO3.by_
  clear c0 c1 c2 c3 c4 c5 c6 c7 c8 f0 I1 hO3 hb3
  obtain ⟨c0, c1, c2, c3, c4, c5, c6, c7, c8, f0⟩ := K.nine
  have K := K.alloc (.cells #[.int .i64 ep, .int .i64 bo] 3)
  have hb := hb.push (.cells #[.int .i64 ep, .int .i64 bo] 3)
  have hlw := hlw.boxed (.cells #[.int .i64 ep, .int .i64 bo] 3)
  have hO := hO.boxed (.cells #[.int .i64 ep, .int .i64 bo] 3)
  have I1 : In (w3.alloc (.cells #[.int .i64 ep, .int .i64 bo] 3)) (w3.alloc (.cells #[.int .i64 ep, .int .i64 bo] 3)).heap.size (some ⟨w3.heap.size, 0, none⟩) 2 [ep, bo] := (Bk.new w3 3 #[.int .i64 ep, .int .i64 bo]).rd (n := 2) (size := 1) rfl
  go_wp2_with fail
  refine (rputs A3 (some ⟨w3.heap.size, 0, none⟩) N3 _ 2 2 4 _ [ep, bo] _ hO I1 (by omega) (by have := hN3.out; omega) (by omega) H2.out).mono ?_
  rintro e w4 ⟨A4, N4, c4', rfl, hO4, hb4⟩
  have hN4 := Lib.hid (show N4 = 12 from by have := hO4.len; simpa [be_len] using this.symm)
  have K := K.kept hb4
  have hb := hb.next hb4
  have hlw := hlw.kept hb4
  have hO := hO4.by_
  clear c0 c1 c2 c3 c4 c5 c6 c7 c8 f0 I1 hO4 hb4
  obtain ⟨c0, c1, c2, c3, c4, c5, c6, c7, c8, f0⟩ := K.nine
  have K := K.alloc (.cells #[.int .i64 sq, .int .i64 ac] 3)
  have hb := hb.push (.cells #[.int .i64 sq, .int .i64 ac] 3)
  have hlw := hlw.boxed (.cells #[.int .i64 sq, .int .i64 ac] 3)
  have hO := hO.boxed (.cells #[.int .i64 sq, .int .i64 ac] 3)
  have I1 : In (w4.alloc (.cells #[.int .i64 sq, .int .i64 ac] 3)) (w4.alloc (.cells #[.int .i64 sq, .int .i64 ac] 3)).heap.size (some ⟨w4.heap.size, 0, none⟩) 2 [sq, ac] := (Bk.new w4 3 #[.int .i64 sq, .int .i64 ac]).rd (n := 2) (size := 1) rfl
  go_wp2_with fail
  refine (rputs A4 (some ⟨w4.heap.size, 0, none⟩) N4 _ 2 2 2 _ [sq, ac] _ hO I1 (by omega) (by have := hN4.out; omega) (by omega) H3.out).mono ?_
  rintro e w5 ⟨A5, N5, c5', rfl, hO5, hb5⟩
  have hN5 := Lib.hid (show N5 = 16 from by have := hO5.len; simpa [be_len] using this.symm)
  have K := K.kept hb5
  have hb := hb.next hb5
  have hlw := hlw.kept hb5
  have hO := hO5.by_
  clear c0 c1 c2 c3 c4 c5 c6 c7 c8 f0 I1 hO5 hb5
  obtain ⟨c0, c1, c2, c3, c4, c5, c6, c7, c8, f0⟩ := K.nine
  go_wp2_with fail
  refine (rtexts_any A5 A N5 _ N c _ l _ hO hlw (by have := hN5.out; omega) (by omega)).mono ?_
  rintro e w6 ⟨A6, N6, c6', rfl, hO6, hb6⟩
  have hN6 := Lib.hid (show N6 = 18 + N from by have := hO6.len; have h5 := hlen.out; simp [be_len, h5] at this; omega)
  have hb := hb.next hb6
  have hO := hO6.by_
  clear c0 c1 c2 c3 c4 c5 c6 c7 c8 f0 hO6 hb6
  go_wp2_with fail
  refine (rseal_any A6 N6 _ 3 _ _ hO (by have := hN6.out; omega) (by omega)).mono ?_
  rintro e w7 ⟨A7, N7, c7', rfl, hO7, hb7⟩
  go_wp2_with fail
  go_ret2
  exact ⟨A7, N7, c7', rfl, by
    refine OwnB.more_ ?_ hb.size
    have h5 := hlen.out
    subst h5
    exact hO7, hb.next hb7⟩
theorem rsbytes_no (k t f h ep bo sq ac : Int) (A : Option Addr) (N c : Nat) (w : World) (hok : ¬ SgOk k t f h ep bo sq ac N) :
    Calls Try.prog 26 #[.agg (sgC k t f h ep bo sq ac A N c)] w fun e w' => e = .returned (.tuple #[.slice none 0 0, .int .i64 2]) ∧ Below w.heap.size w w' := by
  have H0 := Lib.hid (sgE_no hok)
  clear hok
  have K := Bk.new w 34 (sgC k t f h ep bo sq ac A N c)
  have hb := (Below.refl w.heap.size w).push (.cells (sgC k t f h ep bo sq ac A N c) 34)
  unfold sgC at K hb ⊢
  have CHK := fun w => rscheck_below k t f h ep bo sq ac A N c w
  unfold sgC at CHK
  go_enter Try.func26, Try.ntmps26
  go_upto_region 1 with fail
  generalize w.alloc _ = w1 at K hb ⊢
  obtain ⟨c0, c1, c2, c3, c4, c5, c6, c7, c8, f0⟩ := K.nine
  go_wp2_with fail
  refine (CHK _).mono ?_
  rintro e w2 ⟨rfl, hb2⟩
  simp only [H0.out]
  skip
  go_wp2_with fail
  go_ret2
  exact ⟨rfl, hb.next hb2⟩
end Go.Proofs.Ytfnnjaljnfphlaa
