/- '==' of structs and arrays by value: probes, headers, masks, outputs. -/
import Derived.Test.YtfnnjaljnfphlaaSge
namespace Go.Proofs.Ytfnnjaljnfphlaa
open Go.RowKit
set_option maxRecDepth 100000
set_option maxHeartbeats 4000000
set_option linter.unusedSimpArgs false
set_option linter.unusedVariables false

theorem fld_cons {P : Program} {d : Nat} {xs ys : Array Value} {f : Field} {fs : List Field} {a b : Value} {r s : Bool} {w : World} (hn : f.name ≠ "_") (ha : (part f.type xs f.offset).run P w = .ok a w) (hb : (part f.type ys f.offset).run P w = .ok b w)
    (he : (Op.equalIn d f.type a b).run P w = .ok r w) (hr : (Op.eqFields d xs ys fs).run P w = .ok s w) : (Op.eqFields d xs ys (f :: fs)).run P w = .ok (r && s) w := by
  simp only [Op.eqFields, hn, ne_eq, not_false_eq_true, if_true, Sem.run_bind, ha, hb, he, Result.andThen_ok]
  cases r
  · simp
  · simpa using hr
theorem fld_nil {P : Program} {d : Nat} {xs ys : Array Value} {w : World} : (Op.eqFields d xs ys []).run P w = .ok true w := by simp [Op.eqFields]
theorem eqI (d : Nat) (a b : Int) (w : World) : (Op.equalIn (d + 1) 3 (.int .i64 a) (.int .i64 b)).run Try.prog w = .ok (a == b) w := run_equalIn_int w d 3 .i64 .i64 a b Try.underlying3
theorem eqU (d : Nat) (a b : Int) (w : World) : (Op.equalIn (d + 1) 5 (.int .u8 a) (.int .u8 b)).run Try.prog w = .ok (a == b) w := run_equalIn_int w d 5 .u8 .u8 a b Try.underlying5
theorem partI (xs : Array Value) (i : Nat) (v : Value) (w : World) (h : xs[i]? = some v) : (part 3 xs i).run Try.prog w = .ok v w := run_part_plain w (by kernel_rfl) h
theorem partU (xs : Array Value) (i : Nat) (v : Value) (w : World) (h : xs[i]? = some v) : (part 5 xs i).run Try.prog w = .ok v w := run_part_plain w (by kernel_rfl) h

def prQ (a b c d e a' b' c' d' e' : Int) : Bool := a == a' && (b == b' && (c == c' && (d == d' && (e == e' && true))))
theorem prQ_self (a b c d e : Int) : prQ a b c d e a b c d e = true := by simp [prQ]
theorem eq23 (a b c d e a' b' c' d' e' : Int) (w : World) : (Op.equalIn 10000 23 (.agg #[.int .i64 a, .int .i64 b, .int .i64 c, .int .i64 d, .int .i64 e]) (.agg #[.int .i64 a', .int .i64 b', .int .i64 c', .int .i64 d', .int .i64 e'])).run Try.prog w =
    .ok (prQ a b c d e a' b' c' d' e') w := by
  rw [show (10000 : Nat) = 9999 + 1 from rfl, run_equalIn_struct w 9999 23 _ _ (by kernel_rfl) (by kernel_rfl)]
  unfold Program.fieldsOf
  rw [Try.underlying23]
  exact fld_cons (by decide) (partI _ 0 _ _ rfl) (partI _ 0 _ _ rfl) (eqI 9998 _ _ _) (fld_cons (by decide) (partI _ 1 _ _ rfl) (partI _ 1 _ _ rfl) (eqI 9998 _ _ _) (fld_cons (by decide) (partI _ 2 _ _ rfl) (partI _ 2 _ _ rfl) (eqI 9998 _ _ _) (fld_cons (by decide) (partI _ 3 _ _ rfl) (partI _ 3 _ _ rfl) (eqI 9998 _ _ _) (fld_cons (by decide) (partI _ 4 _ _ rfl) (partI _ 4 _ _ rfl) (eqI 9998 _ _ _) fld_nil))))
theorem bin_eq23 (a b c d e a' b' c' d' e' : Int) (w : World) : (binOp .eql 23 (.agg #[.int .i64 a, .int .i64 b, .int .i64 c, .int .i64 d, .int .i64 e]) (.agg #[.int .i64 a', .int .i64 b', .int .i64 c', .int .i64 d', .int .i64 e'])).run Try.prog w =
    .ok (.bool (prQ a b c d e a' b' c' d' e')) w := by
  have := eq23 a b c d e a' b' c' d' e' w
  simp [binOp, Op.equal, Op.maxDepth, this]
theorem bin_ne23 (a b c d e a' b' c' d' e' : Int) (w : World) : (binOp .neq 23 (.agg #[.int .i64 a, .int .i64 b, .int .i64 c, .int .i64 d, .int .i64 e]) (.agg #[.int .i64 a', .int .i64 b', .int .i64 c', .int .i64 d', .int .i64 e'])).run Try.prog w =
    .ok (.bool (!prQ a b c d e a' b' c' d' e')) w := by
  have := eq23 a b c d e a' b' c' d' e' w
  simp [binOp, Op.equal, Op.maxDepth, this]
end Go.Proofs.Ytfnnjaljnfphlaa
