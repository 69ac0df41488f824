/- An argument that is a segment, opened. -/
import Derived.Test.YtfnnjaljnfphlaaOpn
import Derived.Test.YtfnnjaljnfphlaaSgd
namespace Go.Proofs.Ytfnnjaljnfphlaa
open Go.ChangeShapes Go.WideShapes Go.ChangeAt Go.RowKit Go.Deep
set_option maxRecDepth 100000
set_option linter.unusedVariables false

theorem cells34 : Try.prog.cellsOf 34 = 9 := by kernel_rfl
theorem weights_agg9 {H : Type} (y0 y1 y2 y3 y4 y5 y6 y7 : DataW H) (es sp : List (DataW H)) : (es.length + sp.length) * Try.prog.bytesOf 5 ∈ DataW.weights Try.prog 34 (.agg [y0, y1, y2, y3, y4, y5, y6, y7, .slice es sp]) := by
  simp [DataW.weights, DataW.weightsEach, Try.underlying34, Try.underlying32]
theorem opened_seg {H : Type} {enc : TypeId × Value → H} {w : World} {base : Nat} {spare : Nat → Bool} {held : Bool} {r : Reach} {b0 : Nat} {v : Value} {d : DataW H} {p : List MemPlace}
    (hv : Value.okWide Try.prog w r b0 34 v) (h : DataW.Trod enc Try.prog w base spare held 34 v d p) :
    ∃ k t f hp ep bo sq ac A N c l, v = .agg (sgC k t f hp ep bo sq ac A N c) ∧ I64 k ∧ I64 t ∧ I64 f ∧ I64 hp ∧ I64 ep ∧ I64 bo ∧ I64 sq ∧ I64 ac ∧ By w w.heap.size A N l ∧ N ≤ c ∧
      (N = 0 ∨ ∃ m ∈ DataW.weights Try.prog 34 d, N ≤ m) := by
  obtain ⟨⟨l⟩, ys, n, rfl, hsz, hlen, rfl, rfl, hg⟩ := opened_fields Try.underlying34 (by kernel_rfl) hv h
  rw [cells34] at hsz
  match l, hsz, ys, hlen, hg with
  | [c0, c1, c2, c3, c4, c5, c6, c7, c8], _, [y0, y1, y2, y3, y4, y5, y6, y7, y8], _, hg =>
    obtain ⟨a0, e0, z0, w0⟩ := DataW.trod_int Try.underlying3 (by simpa using hg 0 _ rfl)
    obtain ⟨a1, e1, z1, w1⟩ := DataW.trod_int Try.underlying3 (by simpa using hg 1 _ rfl)
    obtain ⟨a2, e2, z2, w2⟩ := DataW.trod_int Try.underlying3 (by simpa using hg 2 _ rfl)
    obtain ⟨a3, e3, z3, w3⟩ := DataW.trod_int Try.underlying3 (by simpa using hg 3 _ rfl)
    obtain ⟨a4, e4, z4, w4⟩ := DataW.trod_int Try.underlying3 (by simpa using hg 4 _ rfl)
    obtain ⟨a5, e5, z5, w5⟩ := DataW.trod_int Try.underlying3 (by simpa using hg 5 _ rfl)
    obtain ⟨a6, e6, z6, w6⟩ := DataW.trod_int Try.underlying3 (by simpa using hg 6 _ rfl)
    obtain ⟨a7, e7, z7, w7⟩ := DataW.trod_int Try.underlying3 (by simpa using hg 7 _ rfl)
    obtain ⟨A, N, c, l, e8, hl, hc, hr⟩ := opened_row (y := y8) (by simpa using hg 8 _ rfl)
    simp at e0 e1 e2 e3 e4 e5 e6 e7
    subst e0 e1 e2 e3 e4 e5 e6 e7 e8
    refine ⟨a0, a1, a2, a3, a4, a5, a6, a7, A, N, c, l, rfl, wf_I64 w0, wf_I64 w1, wf_I64 w2, wf_I64 w3, wf_I64 w4, wf_I64 w5, wf_I64 w6, wf_I64 w7, hl, hc, ?_⟩
    rcases hr with hr | ⟨es, sp, hy, hr⟩
    · exact .inl hr
    · right
      refine ⟨(es.length + sp.length) * Try.prog.bytesOf 5, ?_, by rw [bytes5]; omega⟩
      simp only [List.map_cons, List.map_nil, hy]
      exact weights_agg9 _ _ _ _ _ _ _ _ es sp
theorem seg_room {H : Type} {ts : List TypeId} {ds : List (DataW H)} (hsz : (DataW.weightsEach Try.prog ts ds).all (· ≤ reachBytes) = true) {j : Nat} {d : DataW H} {N : Nat} (ht : ts[j]? = some 34) (hd : ds[j]? = some d)
    (h : N = 0 ∨ ∃ m ∈ DataW.weights Try.prog 34 d, N ≤ m) : N ≤ 140737488351232 := by
  rcases h with h | ⟨m, hm, h⟩
  · omega
  · have := List.all_eq_true.1 hsz _ (DataW.weights_mem_each ht hd _ hm)
    have h2 : m ≤ reachBytes := by simpa using this
    unfold reachBytes at h2
    omega
end Go.Proofs.Ytfnnjaljnfphlaa
