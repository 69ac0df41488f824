/- ProbeOnce: its walk. -/
import Derived.Test.YtfnnjaljnfphlaaL04
namespace Go.Proofs.Ytfnnjaljnfphlaa
open Go.RowKit
set_option maxRecDepth 100000
set_option maxHeartbeats 2000000
set_option linter.unusedSimpArgs false
set_option linter.unusedVariables false

theorem Bk.set5 {w : World} {g : Nat} {t : TypeId} {a b c d e : Value} (h : Bk w g t #[a, b, c, d, e]) (a' b' c' d' e' : Value) :
    Bk (((((w.setCell ⟨g, 0, none⟩ a').setCell ⟨g, 1, none⟩ b').setCell ⟨g, 2, none⟩ c').setCell ⟨g, 3, none⟩ d').setCell ⟨g, 4, none⟩ e') g t #[a', b', c', d', e'] := by
  have := ((((h.set_ 0 a').set_ 1 b').set_ 2 c').set_ 3 d').set_ 4 e'
  simpa using this
theorem below_set5 {w w1 : World} {g : Nat} (h : Below w.heap.size w w1) (hg : w.heap.size ≤ g) (a' b' c' d' e' : Value) :
    Below w.heap.size w (((((w1.setCell ⟨g, 0, none⟩ a').setCell ⟨g, 1, none⟩ b').setCell ⟨g, 2, none⟩ c').setCell ⟨g, 3, none⟩ d').setCell ⟨g, 4, none⟩ e') :=
  ((((h.setCell hg _).setCell hg _).setCell hg _).setCell hg _).setCell hg _
theorem mk_cases (t tp : Int) : (mkT t tp = 0 ∧ mkTp t tp = 0) ∨ (1 ≤ mkT t tp ∧ mkT t tp ≤ 6 ∧ 1 ≤ mkTp t tp ∧ mkTp t tp ≤ 4) := by
  unfold mkT mkTp
  by_cases h : t.tmod 2 = 0
  · rw [if_pos h, if_pos h]; exact .inl ⟨rfl, rfl⟩
  · rw [if_neg h, if_neg h]; right; omega

theorem probeOnce_walk (f fp t tp n a b : Int) (w : World) (h1 : I64 f) (h2 : I64 fp) (h3 : I64 t) (h4 : I64 tp) (h5 : I64 n) (h6 : I64 a) (h7 : I64 b) :
    Calls Try.prog 3 #[.agg #[.int .i64 f, .int .i64 fp, .int .i64 t, .int .i64 tp, .int .i64 n], .int .i64 a, .int .i64 b] w fun e w' => e = .returned (.bool true) ∧ Below w.heap.size w w' := by
  have e1 := wrap_six a
  have e2 := wrap_four b
  have M := made04_any f fp t tp n (w.alloc (.cells #[.int .i64 f, .int .i64 fp, .int .i64 t, .int .i64 tp, .int .i64 n] 23)) h1 h2 h3 h4 h5
  have H1 : 1 ≤ 1 + f % 6 ∧ 1 + f % 6 ≤ 6 := by omega
  have H2 : 1 ≤ 1 + fp % 4 ∧ 1 + fp % 4 ≤ 4 := by omega
  have H5 : 0 ≤ n % 65536 ∧ n % 65536 ≤ 65535 := by omega
  have HA : 1 ≤ 1 + a % 6 ∧ 1 + a % 6 ≤ 6 := by omega
  have HB : 1 ≤ 1 + b % 4 ∧ 1 + b % 4 ≤ 4 := by omega
  have H3 := mk_cases t tp
  have ha := h6; have hb := h7
  unfold I64 at ha hb
  generalize 1 + f % 6 = F at *
  generalize 1 + fp % 4 = FP at *
  generalize n % 65536 = N at *
  generalize mkT t tp = T at *
  generalize mkTp t tp = TP at *
  obtain ⟨A, hA⟩ : ∃ A, A = 1 + a % 6 := ⟨_, rfl⟩
  obtain ⟨B, hB⟩ : ∃ B, B = 1 + b % 4 := ⟨_, rfl⟩
  rw [← hA] at e1 HA
  rw [← hB] at e2 HB
  have hE : endB A B = true := endB_iff.2 ⟨HA.1, HA.2, HB.1, HB.2⟩
  have hq : ∀ w, (binOp .eql 23 (.agg #[.int .i64 0, .int .i64 0, .int .i64 0, .int .i64 0, .int .i64 0]) (.agg #[.int .i64 0, .int .i64 0, .int .i64 0, .int .i64 0, .int .i64 0])).run Try.prog w = .ok (.bool true) w := fun _ => by kernel_rfl
  rcases H3 with ⟨rfl, rfl⟩ | H3
  · have hok : PrOk F FP 0 0 N := ⟨⟨H1.1, H1.2, H2.1, H2.2⟩, .inl ⟨rfl, rfl⟩, H5⟩
    have hok2 : PrOk F FP A B N := ⟨⟨H1.1, H1.2, H2.1, H2.2⟩, .inr ⟨HA.1, HA.2, HB.1, HB.2⟩, H5⟩
    have v0 := Lib.hid (show fndE F FP 0 0 N A B = 0 by rw [fndE, if_neg (by rw [prE_ok hok]; omega), if_neg (by omega), if_pos hE])
    have v1 : ∀ x, fndV F FP 0 0 N A B x = x := fun x => by rw [fndV, if_pos v0.out]
    have u0 := Lib.hid (show fndE F FP A B N A B = 180 by rw [fndE, if_neg (by rw [prE_ok hok2]; omega), if_pos (by omega)])
    have u1 : ∀ x, fndV F FP A B N A B x = 0 := fun x => by rw [fndV, if_neg (by rw [u0.out]; omega)]
    have q0 := Lib.hid (prE_ok hok2)
    have V1 := Lib.hid v1
    have U1 := Lib.hid u1
    have hA' := Lib.hid hA
    have hB' := Lib.hid hB
    clear hA hB
    clear v1 u1
    go_enter Try.func3, Try.ntmps3
    obtain ⟨c0, c1, c2, c3, c4, f0⟩ := (Bk.new w 23 #[.int .i64 f, .int .i64 fp, .int .i64 t, .int .i64 tp, .int .i64 n]).five
    go_wp2_with fail
    refine M.mono ?_
    rintro e w1 ⟨rfl, hb1⟩
    have K1 := (Bk.new w 23 #[.int .i64 f, .int .i64 fp, .int .i64 t, .int .i64 tp, .int .i64 n]).kept hb1
    obtain ⟨c0, c1, c2, c3, c4, f0⟩ := K1.five
    go_wp2_with (first | (go_at_call 20; refine (bring_any _ _ _ (by omega) (by omega) (by omega) (by omega)).mono ?_; rintro e w2 ⟨rfl, rfl⟩))
    have K2 := K1.set5 (.int .i64 F) (.int .i64 FP) (.int .i64 0) (.int .i64 0) (.int .i64 N)
    have B2 := below_set5 (Below.new _ hb1) (Nat.le_refl _) (.int .i64 F) (.int .i64 FP) (.int .i64 0) (.int .i64 0) (.int .i64 N)
    clear K1 c0 c1 c2 c3 c4 f0 hb1 M
    simp only [← hA'.out, ← hB'.out]
    generalize (((((w1.setCell _ (.int .i64 F)).setCell _ (.int .i64 FP)).setCell _ (.int .i64 0)).setCell _ (.int .i64 0)).setCell _ (.int .i64 N)) = W at K2 B2 ⊢
    clear w1
    refine (found_any F FP 0 0 N A B W).mono ?_
    rintro e w3 ⟨rfl, hb3⟩
    simp only [V1.out, v0.out]
    have K3 := K2.kept hb3
    have B3 := B2.next hb3
    obtain ⟨c0, c1, c2, c3, c4, f0⟩ := (K3.alloc (.cells #[.int .i64 F, .int .i64 FP, .int .i64 A, .int .i64 B, .int .i64 N] 23)).five
    obtain ⟨d0, d1, d2, d3, d4, g0⟩ := (Bk.new w3 23 #[.int .i64 F, .int .i64 FP, .int .i64 A, .int .i64 B, .int .i64 N]).five
    go_wp2_with fail
    refine (found_any F FP A B N A B _).mono ?_
    rintro e w4 ⟨rfl, hb4⟩
    simp only [U1.out, u0.out]
    have K4 := (K3.alloc _).kept hb4
    have B4 := (B3.push _).next hb4
    have J4 := (Bk.new w3 23 #[.int .i64 F, .int .i64 FP, .int .i64 A, .int .i64 B, .int .i64 N]).kept hb4
    obtain ⟨c0, c1, c2, c3, c4, f0⟩ := (K4.alloc (.cells #[.int .i64 0, .int .i64 0, .int .i64 0, .int .i64 0, .int .i64 0] 23)).five
    obtain ⟨d0, d1, d2, d3, d4, g0⟩ := (J4.alloc (.cells #[.int .i64 0, .int .i64 0, .int .i64 0, .int .i64 0, .int .i64 0] 23)).five
    go_wp2_with fail
    refine (pcheck_any F FP A B N _).mono ?_
    rintro e w5 ⟨rfl, hb5⟩
    simp only [q0.out]
    go_wp2_with fail
    refine (works04 _).mono ?_
    rintro e w6 ⟨rfl, hb6⟩
    go_wp2_with fail
    go_ret
    exact ⟨rfl, (((B4.push _).next hb5).next hb6)⟩
  · have hok : PrOk F FP T TP N := ⟨⟨H1.1, H1.2, H2.1, H2.2⟩, .inr H3, H5⟩
    have hne : (T != 0) = true := by simp; omega
    have u0 := Lib.hid (show fndE F FP T TP N A B = 180 by rw [fndE, if_neg (by rw [prE_ok hok]; omega), if_pos (by omega)])
    have u1 : ∀ x, fndV F FP T TP N A B x = 0 := fun x => by rw [fndV, if_neg (by rw [u0.out]; omega)]
    have U1 := Lib.hid u1
    have hA' := Lib.hid hA
    have hB' := Lib.hid hB
    clear hA hB
    clear u1
    go_enter Try.func3, Try.ntmps3
    obtain ⟨c0, c1, c2, c3, c4, f0⟩ := (Bk.new w 23 #[.int .i64 f, .int .i64 fp, .int .i64 t, .int .i64 tp, .int .i64 n]).five
    go_wp2_with fail
    refine M.mono ?_
    rintro e w1 ⟨rfl, hb1⟩
    have K1 := (Bk.new w 23 #[.int .i64 f, .int .i64 fp, .int .i64 t, .int .i64 tp, .int .i64 n]).kept hb1
    obtain ⟨c0, c1, c2, c3, c4, f0⟩ := K1.five
    go_wp2_with (first | (go_at_call 20; refine (bring_any _ _ _ (by omega) (by omega) (by omega) (by omega)).mono ?_; rintro e w2 ⟨rfl, rfl⟩))
    have K2 := K1.set5 (.int .i64 F) (.int .i64 FP) (.int .i64 T) (.int .i64 TP) (.int .i64 N)
    have B2 := below_set5 (Below.new _ hb1) (Nat.le_refl _) (.int .i64 F) (.int .i64 FP) (.int .i64 T) (.int .i64 TP) (.int .i64 N)
    clear K1 c0 c1 c2 c3 c4 f0 hb1 M
    simp only [← hA'.out, ← hB'.out]
    generalize (((((w1.setCell _ (.int .i64 F)).setCell _ (.int .i64 FP)).setCell _ (.int .i64 T)).setCell _ (.int .i64 TP)).setCell _ (.int .i64 N)) = W at K2 B2 ⊢
    clear w1
    refine (found_any F FP T TP N A B W).mono ?_
    rintro e w3 ⟨rfl, hb3⟩
    simp only [U1.out, u0.out]
    have K3 := K2.kept hb3
    have B3 := B2.next hb3
    obtain ⟨c0, c1, c2, c3, c4, f0⟩ := (K3.alloc (.cells #[.int .i64 0, .int .i64 0, .int .i64 0, .int .i64 0, .int .i64 0] 23)).five
    obtain ⟨d0, d1, d2, d3, d4, g0⟩ := (Bk.new w3 23 #[.int .i64 0, .int .i64 0, .int .i64 0, .int .i64 0, .int .i64 0]).five
    go_wp2_with fail
    refine (works04 _).mono ?_
    rintro e w6 ⟨rfl, hb6⟩
    go_wp2_with fail
    go_ret
    exact ⟨rfl, ((B3.push _).next hb6)⟩
end Go.Proofs.Ytfnnjaljnfphlaa
