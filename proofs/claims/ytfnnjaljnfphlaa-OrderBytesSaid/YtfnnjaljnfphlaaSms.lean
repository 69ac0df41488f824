/- Two rules that are the same are told so. -/
import Derived.Test.YtfnnjaljnfphlaaOdx
import Derived.Test.YtfnnjaljnfphlaaSgm
import Derived.Test.YtfnnjaljnfphlaaOdr
import Derived.Test.YtfnnjaljnfphlaaEqs
import Derived.BigQuiet
namespace Go.Proofs.Ytfnnjaljnfphlaa
open Go.RowKit
set_option maxRecDepth 100000
set_option maxHeartbeats 8000000
set_option linter.unusedSimpArgs false
set_option linter.unusedVariables false

theorem setQ (d : Nat) (a b c a' b' c' : Int) (w : World) : (Op.equalIn (d + 2) 63 (.agg #[.int .i64 a, .int .i64 b, .int .i64 c]) (.agg #[.int .i64 a', .int .i64 b', .int .i64 c'])).run Try.prog w = .ok (a == a' && (b == b' && (c == c' && true))) w := by
  obtain ⟨i, hi⟩ := info_of_underlying Try.underlying3
  rw [show d + 2 = (d + 1) + 1 from rfl, run_equalIn_array w (d + 1) _ _ Try.underlying63 hi]
  have hc : Try.prog.cellsOf 3 = 1 := by kernel_rfl
  rw [hc]
  exact item_cons (partI _ 0 _ _ rfl) (partI _ 0 _ _ rfl) (eqI d a a' w) (item_cons (partI _ 1 _ _ rfl) (partI _ 1 _ _ rfl) (eqI d b b' w) (item_cons (partI _ 2 _ _ rfl) (partI _ 2 _ _ rfl) (eqI d c c' w) item_nil))
theorem part63 (xs : Array Value) (i : Nat) (w : World) (x y z : Value) (h : xs.extract i (i + 3) = #[x, y, z]) : (part 63 xs i).run Try.prog w = .ok (.agg #[x, y, z]) w := by
  have hc : (isAgg 63).run Try.prog w = .ok true w := by kernel_rfl
  have hs : (sizeOf 63).run Try.prog w = .ok 3 w := by kernel_rfl
  unfold part
  simp only [Sem.run_bind, hc, Result.andThen_ok, if_true, hs, h, Sem.run_pure]
theorem eq65 (p a b c p' a' b' c' : Int) (w : World) : (Op.equalIn 10000 65 (.agg #[.int .i64 p, .int .i64 a, .int .i64 b, .int .i64 c]) (.agg #[.int .i64 p', .int .i64 a', .int .i64 b', .int .i64 c'])).run Try.prog w = .ok (p == p' && ((a == a' && (b == b' && (c == c' && true))) && true)) w := by
  rw [show (10000 : Nat) = 9999 + 1 from rfl, run_equalIn_struct w 9999 65 _ _ (by kernel_rfl) (by kernel_rfl)]
  unfold Program.fieldsOf
  rw [Try.underlying65]
  exact fld_cons (by decide) (partI _ 0 _ _ rfl) (partI _ 0 _ _ rfl) (eqI 9998 _ _ _) (fld_cons (by decide) (part63 _ 1 _ _ _ _ rfl) (part63 _ 1 _ _ _ _ rfl) (setQ 9997 _ _ _ _ _ _ _) fld_nil)
theorem ne65 (p a b c : Int) (w : World) : (binOp .neq 65 (.agg #[.int .i64 p, .int .i64 a, .int .i64 b, .int .i64 c]) (.agg #[.int .i64 p, .int .i64 a, .int .i64 b, .int .i64 c])).run Try.prog w = .ok (.bool false) w := by
  have := eq65 p a b c p a b c w
  simp [binOp, Op.equal, Op.maxDepth, this]
theorem ne48 (m : Mk) (w : World) : (binOp .neq 48 (.agg #[.int .i64 m.ve, .int .i64 m.mp, .int .u8 (m.b0.toNat : Int), .int .u8 (m.b1.toNat : Int), .int .u8 (m.b2.toNat : Int), .int .u8 (m.i0.toNat : Int), .int .u8 (m.i1.toNat : Int), .int .u8 (m.i2.toNat : Int)]) (.agg #[.int .i64 m.ve, .int .i64 m.mp, .int .u8 (m.b0.toNat : Int), .int .u8 (m.b1.toNat : Int), .int .u8 (m.b2.toNat : Int), .int .u8 (m.i0.toNat : Int), .int .u8 (m.i1.toNat : Int), .int .u8 (m.i2.toNat : Int)])).run Try.prog w = .ok (.bool false) w := by
  have := bin_ne48 m m w
  rw [mkQ_self] at this
  exact this
theorem same06_any (r : Ru) (A A2 : Option Addr) (N c c2 : Nat) (w : World) (hl : Ou w w.heap.size A N r.os) (hl2 : Ou w w.heap.size A2 N r.os) (hN : N ≤ 1000) :
    Calls Try.prog 56 #[.agg (ruC r A N c), .agg (ruC r A2 N c2)] w fun e w' => e = .returned (.bool true) ∧ Below w.heap.size w w' := by
  have K := (Bk.new w 51 (ruC r A N c)).alloc (.cells (ruC r A2 N c2) 51)
  have K2 := Bk.newAt' (w := w.alloc (.cells (ruC r A N c) 51)) 51 (ruC r A2 N c2) (World.size_alloc _ _)
  have hb := ((Below.refl w.heap.size w).push (.cells (ruC r A N c) 51)).push (.cells (ruC r A2 N c2) 51)
  have hlw := (hl.boxed (.cells (ruC r A N c) 51)).boxed (.cells (ruC r A2 N c2) 51)
  have hlw2 := (hl2.boxed (.cells (ruC r A N c) 51)).boxed (.cells (ruC r A2 N c2) 51)
  have hq := ne48 r.m
  clear hl hl2
  unfold ruC at K K2 hb hlw hlw2 ⊢
  go_enter Try.func56, Try.ntmps56
  go_upto_region 1 with fail
  generalize (w.alloc _).alloc _ = w1 at K K2 hb hlw hlw2 ⊢
  have hb0 := hb
  generalize w.heap.size + 1 = g2 at K2 ⊢
  generalize w.heap.size = g1 at K hb ⊢
  obtain ⟨c0, c1, c2, c3, c4, c5, c6, c7, c8, c9, c10, c11, c12, f0⟩ := K.r13
  obtain ⟨d0, d1, d2, d3, d4, d5, d6, d7, d8, d9, d10, d11, d12, f1⟩ := K2.r13
  have e0 : (r.k != r.k) = false := by simp
  have e1 : (r.pr != r.pr) = false := by simp
  have e2 : (r.to != r.to) = false := by simp
  have e3 : (r.po != r.po) = false := by simp
  have e4 : ((N : Int) != (N : Int)) = false := by simp
  go_wp2_with fail
  clear c0 c1 c2 c3 c4 c5 c6 c7 c8 c9 c10 c11 c12 f0 d0 d1 d2 d3 d4 d5 d6 d7 d8 d9 d10 d11 d12 f1 hq
  go_loopw [5] (fun i wr => ∃ k : Nat, k ≤ N ∧ i = .int .i64 k ∧ Below w1.heap.size w1 wr) (fun i _ => N - (intOf i).toNat)
  case atStart => exact ⟨0, by omega, rfl, Below.refl _ _⟩
  case round =>
    obtain ⟨k, hk, rfl, hbr⟩ := hrel
    have hbB := hb0.trans (hbr.mono hb0.size)
    have K := K.kept hbr
    have K2 := K2.kept hbr
    have hlw := hlw.kept hbr
    have hlw2 := hlw2.kept hbr
    have c12 : wr.cell? ⟨g1, 12, none⟩ = some (.slice A N c) := K.cell 12
    have d12 : wr.cell? ⟨g2, 12, none⟩ = some (.slice A2 N c2) := K2.cell 12
    have f0 := K.frozen
    have f1 := K2.frozen
    by_cases hlt : k < N
    · obtain ⟨b, off, p, x, y, z, rfl, hbb, h0, h1, h2, h3, hxk⟩ := hlw.at_ hlt
      obtain ⟨b', off', p', x', y', z', rfl, hbb', h0', h1', h2', h3', hxk'⟩ := hlw2.at_ hlt
      have he := hxk.out.symm.trans hxk'.out
      injection he with he
      injection he with he1 he
      injection he with he2 he
      injection he with he3 he4
      subst he1 he2 he3 he4
      have hk2 : (k : Int) < (N : Int) := by omega
      have hk3 : (0 : Int) ≤ (k : Int) := by omega
      have hn := ne65 p x y z
      clear K K2 hlw hlw2 hbb hbb' hxk hxk'
      go_wp2_with fail
      first | (go_quiet (fail)) | fail
      go_wp2_with fail
      go_roundw
      case rel => exact ⟨k + 1, by omega, by go_num, below_drewN hbr _⟩
      case measure => simp [intOf]; omega
    · obtain rfl : k = N := by omega
      go_wp2_with fail
      go_ret
      exact ⟨rfl, hbB⟩
theorem rsameRule_any (r : Ru) (A A2 : Option Addr) (N c c2 : Nat) (w : World) (hl : Ou w w.heap.size A N r.os) (hl2 : Ou w w.heap.size A2 N r.os) (hN : N ≤ 1000) :
    Calls Try.prog 102 #[.agg (ruC r A N c), .agg (ruC r A2 N c2)] w fun e w' => e = .returned (.bool true) ∧ Below w.heap.size w w' := by
  have K := (Bk.new w 51 (ruC r A N c)).alloc (.cells (ruC r A2 N c2) 51)
  have K2 := Bk.newAt' (w := w.alloc (.cells (ruC r A N c) 51)) 51 (ruC r A2 N c2) (World.size_alloc _ _)
  have hb := ((Below.refl w.heap.size w).push (.cells (ruC r A N c) 51)).push (.cells (ruC r A2 N c2) 51)
  have hlw := (hl.boxed (.cells (ruC r A N c) 51)).boxed (.cells (ruC r A2 N c2) 51)
  have hlw2 := (hl2.boxed (.cells (ruC r A N c) 51)).boxed (.cells (ruC r A2 N c2) 51)
  have hq := ne48 r.m
  clear hl hl2
  unfold ruC at K K2 hb hlw hlw2 ⊢
  go_enter Try.func102, Try.ntmps102
  go_upto_region 1 with fail
  generalize (w.alloc _).alloc _ = w1 at K K2 hb hlw hlw2 ⊢
  have hb0 := hb
  generalize w.heap.size + 1 = g2 at K2 ⊢
  generalize w.heap.size = g1 at K hb ⊢
  obtain ⟨c0, c1, c2, c3, c4, c5, c6, c7, c8, c9, c10, c11, c12, f0⟩ := K.r13
  obtain ⟨d0, d1, d2, d3, d4, d5, d6, d7, d8, d9, d10, d11, d12, f1⟩ := K2.r13
  have e0 : (r.k != r.k) = false := by simp
  have e1 : (r.pr != r.pr) = false := by simp
  have e2 : (r.to != r.to) = false := by simp
  have e3 : (r.po != r.po) = false := by simp
  have e4 : ((N : Int) != (N : Int)) = false := by simp
  go_wp2_with fail
  clear c0 c1 c2 c3 c4 c5 c6 c7 c8 c9 c10 c11 c12 f0 d0 d1 d2 d3 d4 d5 d6 d7 d8 d9 d10 d11 d12 f1 hq
  go_loopw [5] (fun i wr => ∃ k : Nat, k ≤ N ∧ i = .int .i64 k ∧ Below w1.heap.size w1 wr) (fun i _ => N - (intOf i).toNat)
  case atStart => exact ⟨0, by omega, rfl, Below.refl _ _⟩
  case round =>
    obtain ⟨k, hk, rfl, hbr⟩ := hrel
    have hbB := hb0.trans (hbr.mono hb0.size)
    have K := K.kept hbr
    have K2 := K2.kept hbr
    have hlw := hlw.kept hbr
    have hlw2 := hlw2.kept hbr
    have c12 : wr.cell? ⟨g1, 12, none⟩ = some (.slice A N c) := K.cell 12
    have d12 : wr.cell? ⟨g2, 12, none⟩ = some (.slice A2 N c2) := K2.cell 12
    have f0 := K.frozen
    have f1 := K2.frozen
    by_cases hlt : k < N
    · obtain ⟨b, off, p, x, y, z, rfl, hbb, h0, h1, h2, h3, hxk⟩ := hlw.at_ hlt
      obtain ⟨b', off', p', x', y', z', rfl, hbb', h0', h1', h2', h3', hxk'⟩ := hlw2.at_ hlt
      have he := hxk.out.symm.trans hxk'.out
      injection he with he
      injection he with he1 he
      injection he with he2 he
      injection he with he3 he4
      subst he1 he2 he3 he4
      have hk2 : (k : Int) < (N : Int) := by omega
      have hk3 : (0 : Int) ≤ (k : Int) := by omega
      have hn := ne65 p x y z
      clear K K2 hlw hlw2 hbb hbb' hxk hxk'
      go_wp2_with fail
      first | (go_quiet (fail)) | fail
      go_wp2_with fail
      go_roundw
      case rel => exact ⟨k + 1, by omega, by go_num, below_drewN hbr _⟩
      case measure => simp [intOf]; omega
    · obtain rfl : k = N := by omega
      go_wp2_with fail
      go_ret
      exact ⟨rfl, hbB⟩
end Go.Proofs.Ytfnnjaljnfphlaa
