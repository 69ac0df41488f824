/- '==' of arrays of eight numbers. -/
import Derived.Test.YtfnnjaljnfphlaaSgd
import Derived.DeepKeys
namespace Go.Proofs.Ytfnnjaljnfphlaa
open Go.RowKit
set_option maxRecDepth 100000
set_option maxHeartbeats 4000000
set_option linter.unusedSimpArgs false
set_option linter.unusedVariables false

theorem item_cons {P : Program} {d : Nat} {e : TypeId} {c : Nat} {xs ys : Array Value} {i : Nat} {is : List Nat} {a b : Value} {r s : Bool} {w : World} (ha : (part e xs (i * c)).run P w = .ok a w) (hb : (part e ys (i * c)).run P w = .ok b w)
    (he : (Op.equalIn d e a b).run P w = .ok r w) (hr : (Op.eqItems d e c xs ys is).run P w = .ok s w) : (Op.eqItems d e c xs ys (i :: is)).run P w = .ok (r && s) w := by
  rw [Op.eqItems]
  simp only [Sem.run_bind, ha, hb, he, Result.andThen_ok]
  cases r
  · simp
  · simpa using hr
theorem item_nil {P : Program} {d : Nat} {e : TypeId} {c : Nat} {xs ys : Array Value} {w : World} : (Op.eqItems d e c xs ys []).run P w = .ok true w := by simp [Op.eqItems]
theorem eq8 (a0 a1 a2 a3 a4 a5 a6 a7 b0 b1 b2 b3 b4 b5 b6 b7 : Int) (w : World) :
    (Op.equalIn 10000 86 (.agg #[.int .i64 a0, .int .i64 a1, .int .i64 a2, .int .i64 a3, .int .i64 a4, .int .i64 a5, .int .i64 a6, .int .i64 a7]) (.agg #[.int .i64 b0, .int .i64 b1, .int .i64 b2, .int .i64 b3, .int .i64 b4, .int .i64 b5, .int .i64 b6, .int .i64 b7])).run Try.prog w =
      .ok (a0 == b0 && (a1 == b1 && (a2 == b2 && (a3 == b3 && (a4 == b4 && (a5 == b5 && (a6 == b6 && (a7 == b7 && true)))))))) w := by
  have hE : ∀ (a b : Int), (Op.equalIn 9999 3 (.int .i64 a) (.int .i64 b)).run Try.prog w = .ok (a == b) w := fun a b => run_equalIn_int w 9998 3 .i64 .i64 a b Try.underlying3
  obtain ⟨i, hi⟩ := info_of_underlying Try.underlying3
  rw [show (10000 : Nat) = 9999 + 1 from rfl, run_equalIn_array w 9999 _ _ Try.underlying86 hi]
  have hc : Try.prog.cellsOf 3 = 1 := by kernel_rfl
  rw [hc]
  have P : ∀ (xs : Array Value) (i : Nat) (v : Value), xs[i]? = some v → (part 3 xs (i * 1)).run Try.prog w = .ok v w := by
    intro xs i v h1
    rw [Nat.mul_one]
    exact run_part_plain w (by kernel_rfl) h1
  exact item_cons (P _ 0 _ rfl) (P _ 0 _ rfl) (hE a0 b0) (item_cons (P _ 1 _ rfl) (P _ 1 _ rfl) (hE a1 b1) (item_cons (P _ 2 _ rfl) (P _ 2 _ rfl) (hE a2 b2) (item_cons (P _ 3 _ rfl) (P _ 3 _ rfl) (hE a3 b3) (item_cons (P _ 4 _ rfl) (P _ 4 _ rfl) (hE a4 b4) (item_cons (P _ 5 _ rfl) (P _ 5 _ rfl) (hE a5 b5) (item_cons (P _ 6 _ rfl) (P _ 6 _ rfl) (hE a6 b6) (item_cons (P _ 7 _ rfl) (P _ 7 _ rfl) (hE a7 b7) (item_nil))))))))
end Go.Proofs.Ytfnnjaljnfphlaa
