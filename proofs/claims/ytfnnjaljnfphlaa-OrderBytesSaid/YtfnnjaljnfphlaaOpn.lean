/- An argument that is a struct, opened to its fields; a probe's five numbers. -/
import Derived.Test.YtfnnjaljnfphlaaRows
import Derived.Test.YtfnnjaljnfphlaaL04
import Derived.WalkKit
import Derived.ProofKit
import Derived.OpenShut
import Derived.ChangeOld
import Derived.Below
import Derived.Deep.Fields
import Derived.SizedLaws
namespace Go.Proofs.Ytfnnjaljnfphlaa
open Go.ChangeShapes Go.WideShapes Go.ChangeAt Go.RowKit Go.Deep
set_option maxRecDepth 100000
set_option linter.unusedVariables false

theorem ownNone : ownKnob Try.prog.godebug = none := by kernel_rfl
theorem laidOut : laidOutB Try.prog = true := by kernel_rfl

section
variable {H : Type} {enc : TypeId × Value → H} {P : Program} {w : World} {base : Nat} {spare : Nat → Bool} {held : Bool}
theorem opened_fields {r : Reach} {b0 : Nat} {t : TypeId} {fs : Array Field} {v : Value} {d : DataW H} {p : List MemPlace} (hs : P.underlying t = some (.struct fs)) (hone : oneCellFields P fs = true)
    (hv : Value.okWide P w r b0 t v) (h : DataW.Trod enc P w base spare held t v d p) :
    ∃ (cs : Array Value) (ys : List (DataW H × List MemPlace)) (n : Nat), v = .agg cs ∧ cs.size = P.cellsOf t ∧ ys.length = fs.size ∧ d = .agg (ys.map (·.1)) ∧ p = ys.flatMap (·.2) ∧
      ∀ i f, fs[i]? = some f → DataW.trod enc P w base spare held n f.type ((cs.toList.drop i).take 1) = ys[i]? := by
  obtain ⟨cs, rfl, hsz⟩ := okWide_struct hs hv
  obtain ⟨fuel, hf⟩ := h
  obtain ⟨xs, n, _, hx, _, hlen, hg⟩ := DataW.trod_struct hs hf
  injection hx with h1 h2
  refine ⟨cs, xs, n, rfl, hsz, hlen, h1, h2, fun i f hi => ?_⟩
  obtain ⟨o, k⟩ := hone_of hone i f hi
  have := hg i f hi
  rw [o, k] at this
  exact this
theorem wf_I64 {x : Int} (h : (Lit.int .i64 x).wf = true) : I64 x := by
  simp [Lit.wf, IntKind.min, IntKind.max, IntKind.signed, IntKind.bits] at h
  unfold I64
  omega
end
theorem cells23 : Try.prog.cellsOf 23 = 5 := by kernel_rfl
theorem opened_probe {H : Type} {enc : TypeId × Value → H} {w : World} {base : Nat} {spare : Nat → Bool} {held : Bool} {r : Reach} {b0 : Nat} {v : Value} {d : DataW H} {p : List MemPlace}
    (hv : Value.okWide Try.prog w r b0 23 v) (h : DataW.Trod enc Try.prog w base spare held 23 v d p) :
    ∃ f fp t tp n, v = .agg #[.int .i64 f, .int .i64 fp, .int .i64 t, .int .i64 tp, .int .i64 n] ∧ I64 f ∧ I64 fp ∧ I64 t ∧ I64 tp ∧ I64 n ∧ p = [] := by
  obtain ⟨⟨l⟩, ys, n, rfl, hsz, hlen, rfl, rfl, hg⟩ := opened_fields Try.underlying23 (by kernel_rfl) hv h
  rw [cells23] at hsz
  match l, hsz, ys, hlen, hg with
  | [c0, c1, c2, c3, c4], _, [y0, y1, y2, y3, y4], _, hg =>
    obtain ⟨a0, e0, z0, w0⟩ := DataW.trod_int Try.underlying3 (by simpa using hg 0 _ rfl)
    obtain ⟨a1, e1, z1, w1⟩ := DataW.trod_int Try.underlying3 (by simpa using hg 1 _ rfl)
    obtain ⟨a2, e2, z2, w2⟩ := DataW.trod_int Try.underlying3 (by simpa using hg 2 _ rfl)
    obtain ⟨a3, e3, z3, w3⟩ := DataW.trod_int Try.underlying3 (by simpa using hg 3 _ rfl)
    obtain ⟨a4, e4, z4, w4⟩ := DataW.trod_int Try.underlying3 (by simpa using hg 4 _ rfl)
    simp at e0 e1 e2 e3 e4
    subst e0 e1 e2 e3 e4
    exact ⟨a0, a1, a2, a3, a4, rfl, wf_I64 w0, wf_I64 w1, wf_I64 w2, wf_I64 w3, wf_I64 w4, by simp [z0, z1, z2, z3, z4]⟩
theorem u8_wf {z : Int} (h : (Lit.int .u8 z).wf = true) : 0 ≤ z ∧ z ≤ 255 := by
  simp [Lit.wf, IntKind.min, IntKind.max, IntKind.signed, IntKind.bits] at h
  omega
theorem opened_row {H : Type} {enc : TypeId × Value → H} {w : World} {base : Nat} {spare : Nat → Bool} {held : Bool} {n : Nat} {v : Value} {y : DataW H × List MemPlace}
    (h : DataW.trod enc Try.prog w base spare held n 32 [v] = some y) :
    ∃ A N c l, v = .slice A N c ∧ By w w.heap.size A N l ∧ N ≤ c ∧ (N = 0 ∨ ∃ es sp, y.1 = .slice es sp ∧ N ≤ es.length + sp.length) := by
  rcases open_ints Try.underlying32 Try.underlying5 (by kernel_rfl) h with ⟨hcs, _⟩ | ⟨x, l, c, zs, hcs, _, hl, hm, hz, hy, hcell, hwz⟩
  · obtain rfl : v = .slice none 0 0 := by simpa using hcs
    exact ⟨none, 0, 0, [], rfl, By.empty, Nat.le_refl _, .inl rfl⟩
  · obtain rfl : v = .slice (some x) l c := by simpa using hcs
    have hlz : l ≤ zs.length := by rw [hz]; split <;> omega
    refine ⟨some x, l, c, (zs.take l).map fun z => UInt8.ofNat z.toNat, rfl, ⟨by simp; omega, fun hn => ?_⟩, hl, ?_⟩
    · obtain ⟨b, off, spot⟩ := x
      have hc := hcell 0 (by omega)
      have hspot : spot = none := by simpa [Addr.add] using World.cell?_spot hc
      subst hspot
      refine ⟨b, off, rfl, ?_, fun j u hu => ?_⟩
      · rcases Nat.lt_or_ge b w.heap.size with hlt | hge
        · exact hlt
        · simp [World.cell?, Addr.add, Array.getElem?_eq_none hge] at hc
      · have hj : j < l := by
          have := (List.getElem?_eq_some_iff.1 hu).1
          simp at this; omega
        have hcj := hcell j (by omega)
        have hw := u8_wf (hwz _ (List.getElem_mem (h := (by omega : j < zs.length))))
        have hg : zs.getD j 0 = zs[j]'(by omega) := by simp [List.getD, List.getElem?_eq_getElem (by omega : j < zs.length)]
        have e1 : w.cell? ⟨b, off + j, none⟩ = some (.int .u8 (zs[j]'(by omega))) := by
          rw [← hg, ← hcj]
          unfold Addr.add
          by_cases h0 : j = 0
          · subst h0; simp
          · simp [h0]
        rw [e1, ← hu]
        simp only [List.getElem?_map, List.getElem?_take, if_pos hj, List.getElem?_eq_getElem (by omega : j < zs.length), Option.map_some, byV]
        congr 2
        have : (UInt8.ofNat (zs[j]'(by omega)).toNat).toNat = (zs[j]'(by omega)).toNat := by simp; omega
        rw [this]
        omega
    · right
      rw [hy]
      refine ⟨_, _, rfl, ?_⟩
      simp [lits]
      omega
theorem opened_bytes {H : Type} {enc : TypeId × Value → H} {w : World} {base : Nat} {spare : Nat → Bool} {held : Bool} {r : Reach} {b0 : Nat} {v : Value} {d : DataW H} {p : List MemPlace}
    (hv : Value.okWide Try.prog w r b0 32 v) (h : DataW.Trod enc Try.prog w base spare held 32 v d p) :
    ∃ A N c l, v = .slice A N c ∧ By w w.heap.size A N l ∧ N ≤ c ∧ (N = 0 ∨ ∃ es sp, d = .slice es sp ∧ N ≤ es.length + sp.length) := by
  obtain ⟨A, N, c, rfl⟩ := okWide_slice Try.underlying32 hv
  obtain ⟨fuel, hf⟩ := h
  exact opened_row hf
theorem trod_in {H : Type} {enc : TypeId × Value → H} {w : World} {base : Nat} {spare : Nat → Bool} {held : Bool} {t : TypeId} {v : Value} {d : DataW H} {p : List MemPlace}
    (h : DataW.Trod enc Try.prog w base spare held t v d p) : ∀ x ∈ p, x.block < w.heap.size := by
  obtain ⟨m, hm⟩ := h
  exact DataW.trod_lt m _ _ _ hm
theorem bytes5 : Try.prog.bytesOf 5 = 1 := by kernel_rfl
theorem room {H : Type} {ts : List TypeId} {ds : List (DataW H)} (hsz : (DataW.weightsEach Try.prog ts ds).all (· ≤ reachBytes) = true) {j : Nat} {d : DataW H} {N : Nat} (ht : ts[j]? = some 32) (hd : ds[j]? = some d)
    (h : N = 0 ∨ ∃ es sp, d = .slice es sp ∧ N ≤ es.length + sp.length) : N ≤ 140737488351232 := by
  rcases h with h | ⟨es, sp, rfl, h⟩
  · omega
  · have := sized_slice hsz ht hd Try.underlying32
    rw [bytes5] at this
    unfold reachBytes at this
    omega
end Go.Proofs.Ytfnnjaljnfphlaa
