/- An argument that is a struct, opened to its fields; a probe's five numbers. -/
import Derived.Test.YtfnnjaljnfphlaaRows
import Derived.Test.YtfnnjaljnfphlaaL04
import Derived.WalkKit
import Derived.ProofKit
import Derived.OpenShut
import Derived.ChangeOld
import Derived.Below
import Derived.Deep.Fields
namespace Go.Proofs.Ytfnnjaljnfphlaa
open Go.ChangeShapes Go.WideShapes Go.ChangeAt Go.RowKit Go.Deep
set_option maxRecDepth 100000
set_option linter.unusedVariables false

theorem ownNone : ownKnob Try.prog.godebug = none := by kernel_rfl
theorem laidOut : laidOutB Try.prog = true := by kernel_rfl

section
variable {H : Type} {enc : TypeId × Value → H} {P : Program} {w : World} {base : Nat} {spare : Nat → Bool} {held : Bool}
theorem opened_fields {r : Reach} {b0 : Nat} {t : TypeId} {fs : Array Field} {v : Value} {d : DataW H} {p : List MemPlace} (hs : P.underlying t = some (.struct fs)) (hone : oneCellFields P fs = true)
    (hv : Value.okWide P w r b0 t v) (h : DataW.Trod enc P w base spare held t v d p) :
    ∃ (cs : Array Value) (ys : List (DataW H × List MemPlace)) (n : Nat), v = .agg cs ∧ cs.size = P.cellsOf t ∧ ys.length = fs.size ∧ d = .agg (ys.map (·.1)) ∧ p = ys.flatMap (·.2) ∧
      ∀ i f, fs[i]? = some f → DataW.trod enc P w base spare held n f.type ((cs.toList.drop i).take 1) = ys[i]? := by
  obtain ⟨cs, rfl, hsz⟩ := okWide_struct hs hv
  obtain ⟨fuel, hf⟩ := h
  obtain ⟨xs, n, _, hx, _, hlen, hg⟩ := DataW.trod_struct hs hf
  injection hx with h1 h2
  refine ⟨cs, xs, n, rfl, hsz, hlen, h1, h2, fun i f hi => ?_⟩
  obtain ⟨o, k⟩ := hone_of hone i f hi
  have := hg i f hi
  rw [o, k] at this
  exact this
theorem wf_I64 {x : Int} (h : (Lit.int .i64 x).wf = true) : I64 x := by
  simp [Lit.wf, IntKind.min, IntKind.max, IntKind.signed, IntKind.bits] at h
  unfold I64
  omega
end
theorem cells23 : Try.prog.cellsOf 23 = 5 := by kernel_rfl
theorem opened_probe {H : Type} {enc : TypeId × Value → H} {w : World} {base : Nat} {spare : Nat → Bool} {held : Bool} {r : Reach} {b0 : Nat} {v : Value} {d : DataW H} {p : List MemPlace}
    (hv : Value.okWide Try.prog w r b0 23 v) (h : DataW.Trod enc Try.prog w base spare held 23 v d p) :
    ∃ f fp t tp n, v = .agg #[.int .i64 f, .int .i64 fp, .int .i64 t, .int .i64 tp, .int .i64 n] ∧ I64 f ∧ I64 fp ∧ I64 t ∧ I64 tp ∧ I64 n ∧ p = [] := by
  obtain ⟨⟨l⟩, ys, n, rfl, hsz, hlen, rfl, rfl, hg⟩ := opened_fields Try.underlying23 (by kernel_rfl) hv h
  rw [cells23] at hsz
  match l, hsz, ys, hlen, hg with
  | [c0, c1, c2, c3, c4], _, [y0, y1, y2, y3, y4], _, hg =>
    obtain ⟨a0, e0, z0, w0⟩ := DataW.trod_int Try.underlying3 (by simpa using hg 0 _ rfl)
    obtain ⟨a1, e1, z1, w1⟩ := DataW.trod_int Try.underlying3 (by simpa using hg 1 _ rfl)
    obtain ⟨a2, e2, z2, w2⟩ := DataW.trod_int Try.underlying3 (by simpa using hg 2 _ rfl)
    obtain ⟨a3, e3, z3, w3⟩ := DataW.trod_int Try.underlying3 (by simpa using hg 3 _ rfl)
    obtain ⟨a4, e4, z4, w4⟩ := DataW.trod_int Try.underlying3 (by simpa using hg 4 _ rfl)
    simp at e0 e1 e2 e3 e4
    subst e0 e1 e2 e3 e4
    exact ⟨a0, a1, a2, a3, a4, rfl, wf_I64 w0, wf_I64 w1, wf_I64 w2, wf_I64 w3, wf_I64 w4, by simp [z0, z1, z2, z3, z4]⟩
end Go.Proofs.Ytfnnjaljnfphlaa
