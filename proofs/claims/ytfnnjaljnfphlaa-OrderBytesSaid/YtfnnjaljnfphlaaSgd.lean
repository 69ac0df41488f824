/- What a segment may be: the rule, as a function. -/
import Derived.Test.YtfnnjaljnfphlaaSgw
namespace Go.Proofs.Ytfnnjaljnfphlaa
open Go.RowKit
set_option linter.unusedSimpArgs false
set_option linter.unusedVariables false

/-- Whether a segment may be. -/
def SgOk (k t f h ep bo sq ac : Int) (m : Nat) : Prop :=
  ((t = 0 ∧ 1 ≤ f ∧ f ≤ 6) ∨ (f = 0 ∧ 1 ≤ t ∧ t ≤ 6)) ∧ (1 ≤ k ∧ k ≤ 5) ∧ (0 ≤ h ∧ h ≤ 12) ∧ (0 ≤ ep ∧ ep ≤ 4294967295) ∧ (0 ≤ bo ∧ bo ≤ 4294967295) ∧ (0 ≤ sq ∧ sq ≤ 65535) ∧ (0 ≤ ac ∧ ac ≤ 65535) ∧ m ≤ 256 ∧
    (0 < ep ↔ 3 ≤ k) ∧ (bo = 0 ∨ k = 2 ∨ k = 3) ∧ (sq = 0 ∨ k = 5) ∧ (ac = 0 ∨ k = 4) ∧ (0 < m ↔ k = 5) ∧ ((k = 1 ∨ k = 3) → 0 < t) ∧ (k = 2 → 0 < f)
instance (k t f h ep bo sq ac : Int) (m : Nat) : Decidable (SgOk k t f h ep bo sq ac m) := by unfold SgOk; infer_instance
def sgE (k t f h ep bo sq ac : Int) (m : Nat) : Int := if SgOk k t f h ep bo sq ac m then 0 else 2
theorem sgE_ok {k t f h ep bo sq ac : Int} {m : Nat} (hs : SgOk k t f h ep bo sq ac m) : sgE k t f h ep bo sq ac m = 0 := if_pos hs
theorem sgE_no {k t f h ep bo sq ac : Int} {m : Nat} (hs : ¬ SgOk k t f h ep bo sq ac m) : sgE k t f h ep bo sq ac m = 2 := if_neg hs

/-- A segment as a value; its cells. -/
def sgC (k t f h ep bo sq ac : Int) (A : Option Addr) (N c : Nat) : Array Value := #[.int .i64 k, .int .i64 t, .int .i64 f, .int .i64 h, .int .i64 ep, .int .i64 bo, .int .i64 sq, .int .i64 ac, .slice A N c]

def in2 (m a b : Int) : Bool := !([a, b].any (outB m))
def in1 (m a : Int) : Bool := !([a].any (outB m))
theorem in2_iff {m a b : Int} : in2 m a b = true ↔ (0 ≤ a ∧ a ≤ m) ∧ (0 ≤ b ∧ b ≤ m) := by simp [in2, outB]
theorem in1_iff {m a : Int} : in1 m a = true ↔ (0 ≤ a ∧ a ≤ m) := by simp [in1, outB]
theorem within2 (m a b : Int) (w : World) (g : Nat) (cs : Array Value) (K : Bk w g 34 cs) :
    Calls Try.prog 64 #[.int .i64 m, .slice (some ⟨w.heap.size, 0, none⟩) 2 2] (w.alloc (.cells #[.int .i64 a, .int .i64 b] 3)) fun e w' => e = .returned (.bool (in2 m a b)) ∧ Bk w' g 34 cs ∧ Below w.heap.size w w' := by
  refine (within_any m _ 2 2 [a, b] _ ((Bk.new w 3 #[.int .i64 a, .int .i64 b]).rd (n := 2) (size := 1) rfl) (by omega)).mono ?_
  rintro e w' ⟨rfl, rfl⟩
  exact ⟨rfl, (K.alloc _).alloc _, (Below.refl _ _).push _ |>.push _⟩
theorem within1 (m a : Int) (w : World) (g : Nat) (cs : Array Value) (K : Bk w g 34 cs) :
    Calls Try.prog 64 #[.int .i64 m, .slice (some ⟨w.heap.size, 0, none⟩) 1 1] (w.alloc (.cells #[.int .i64 a] 3)) fun e w' => e = .returned (.bool (in1 m a)) ∧ Bk w' g 34 cs ∧ Below w.heap.size w w' := by
  refine (within_any m _ 1 1 [a] _ ((Bk.new w 3 #[.int .i64 a]).rd (n := 1) (size := 1) rfl) (by omega)).mono ?_
  rintro e w' ⟨rfl, rfl⟩
  exact ⟨rfl, (K.alloc _).alloc _, (Below.refl _ _).push _ |>.push _⟩

theorem ok_in {k t f h ep bo sq ac : Int} {m : Nat} (hs : SgOk k t f h ep bo sq ac m) :
    hasI k = true ∧ in2 6 t f = true ∧ in1 12 h = true ∧ in2 4294967295 ep bo = true ∧ in2 65535 sq ac = true ∧ (m : Int) ≤ 256 := by
  unfold SgOk at hs
  refine ⟨by simp [hasI]; omega, in2_iff.2 (by omega), in1_iff.2 (by omega), in2_iff.2 (by omega), in2_iff.2 (by omega), by omega⟩
/-- A segment's bytes. -/
def sgB (k t f h ep bo sq ac : Int) (l : List UInt8) : List UInt8 :=
  sealB 3 ((((([] ++ [k, t, f, h].flatMap fun x => be 1 x.toNat) ++ [ep, bo].flatMap fun x => be 4 x.toNat) ++ [sq, ac].flatMap fun x => be 2 x.toNat) ++ be 2 l.length) ++ l)
theorem OwnB.more_ {w : World} {b1 b2 : Nat} {A : Option Addr} {N c : Nat} {l : List UInt8} (h : OwnB w b1 A N c l) (hb : b2 ≤ b1) : OwnB w b2 A N c l := own_mono h hb
end Go.Proofs.Ytfnnjaljnfphlaa
