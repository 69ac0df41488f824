/- An argument that is an order, opened: 21 cells, a slice of outputs among them. -/
import Derived.Test.YtfnnjaljnfphlaaOpn
import Derived.Test.YtfnnjaljnfphlaaOds
import Derived.Deep.Slices
namespace Go.Proofs.Ytfnnjaljnfphlaa
open Go.ChangeShapes Go.WideShapes Go.ChangeAt Go.RowKit Go.Deep
set_option maxRecDepth 100000
set_option linter.unusedVariables false
set_option linter.unusedSimpArgs false

/-- An output's numbers are machine numbers. -/
def I4 (o : Out4) : Prop := I64 o.1 ∧ I64 o.2.1 ∧ I64 o.2.2.1 ∧ I64 o.2.2.2
/-- An order's numbers are machine numbers. -/
def OI (o : Or6) : Prop := I64 o.k ∧ I64 o.n ∧ I64 o.m ∧ (I64 o.r.k ∧ I64 o.r.pr ∧ I64 o.r.to ∧ I64 o.r.po ∧ (I64 o.r.m.ve ∧ I64 o.r.m.mp) ∧ ∀ x ∈ o.r.os, I4 x) ∧ I64 o.p.f ∧ I64 o.p.fp ∧ I64 o.p.t ∧ I64 o.p.tp ∧ I64 o.p.n
section
variable {H : Type} {enc : TypeId × Value → H} {w : World} {base : Nat} {spare : Nat → Bool} {held : Bool}
theorem c53 : Try.prog.cellsOf 53 = 21 := by kernel_rfl
theorem c51 : Try.prog.cellsOf 51 = 13 := by kernel_rfl
theorem c48 : Try.prog.cellsOf 48 = 8 := by kernel_rfl
theorem c23 : Try.prog.cellsOf 23 = 5 := by kernel_rfl
theorem c65 : Try.prog.cellsOf 65 = 4 := by kernel_rfl
theorem c63 : Try.prog.cellsOf 63 = 3 := by kernel_rfl
theorem c47 : Try.prog.cellsOf 46 = 3 := by kernel_rfl
theorem c3 : Try.prog.cellsOf 3 = 1 := by kernel_rfl
theorem c5 : Try.prog.cellsOf 5 = 1 := by kernel_rfl
theorem cSL : Try.prog.cellsOf 49 = 1 := by kernel_rfl

theorem one_int {n : Nat} {v : Value} {y : DataW H × List MemPlace} (h : DataW.trod enc Try.prog w base spare held n 3 [v] = some y) : ∃ x, v = .int .i64 x ∧ I64 x := by
  obtain ⟨x, e, _, hw⟩ := DataW.trod_int Try.underlying3 h
  exact ⟨x, by simpa using e, wf_I64 hw⟩
theorem one_u8 {n : Nat} {v : Value} {y : DataW H × List MemPlace} (h : DataW.trod enc Try.prog w base spare held n 5 [v] = some y) : ∃ c : UInt8, v = .int .u8 (c.toNat : Int) := by
  obtain ⟨x, e, _, hw⟩ := DataW.trod_int Try.underlying5 h
  have := u8_wf hw
  refine ⟨UInt8.ofNat x.toNat, ?_⟩
  have hx : v = .int .u8 x := by simpa using e
  rw [hx]
  have : ((UInt8.ofNat x.toNat).toNat : Int) = x := by simp; omega
  rw [this]
theorem one_head {n : Nat} {v0 v1 v2 : Value} {y : DataW H × List MemPlace} (h : DataW.trod enc Try.prog w base spare held n 46 [v0, v1, v2] = some y) : ∃ a b c : UInt8, v0 = .int .u8 (a.toNat : Int) ∧ v1 = .int .u8 (b.toNat : Int) ∧ v2 = .int .u8 (c.toNat : Int) := by
  obtain ⟨xs, m, _, _, _, hlen, hg⟩ := DataW.trod_array Try.underlying46 h
  match xs, hlen, hg with
  | [y0, y1, y2], _, hg =>
    have g0 := hg 0 (by omega)
    have g1 := hg 1 (by omega)
    have g2 := hg 2 (by omega)
    rw [c5] at g0 g1 g2
    obtain ⟨a, ha⟩ := one_u8 (v := v0) (y := y0) g0
    obtain ⟨b, hb⟩ := one_u8 (v := v1) (y := y1) g1
    obtain ⟨c, hc⟩ := one_u8 (v := v2) (y := y2) g2
    exact ⟨a, b, c, ha, hb, hc⟩
theorem one_set {n : Nat} {v0 v1 v2 : Value} {y : DataW H × List MemPlace} (h : DataW.trod enc Try.prog w base spare held n 63 [v0, v1, v2] = some y) : ∃ a b c, v0 = .int .i64 a ∧ v1 = .int .i64 b ∧ v2 = .int .i64 c ∧ I64 a ∧ I64 b ∧ I64 c := by
  obtain ⟨xs, m, _, _, _, hlen, hg⟩ := DataW.trod_array Try.underlying63 h
  match xs, hlen, hg with
  | [y0, y1, y2], _, hg =>
    have g0 := hg 0 (by omega)
    have g1 := hg 1 (by omega)
    have g2 := hg 2 (by omega)
    rw [c3] at g0 g1 g2
    obtain ⟨a, ha, wa⟩ := one_int (v := v0) (y := y0) g0
    obtain ⟨b, hb, wb⟩ := one_int (v := v1) (y := y1) g1
    obtain ⟨c, hc, wc⟩ := one_int (v := v2) (y := y2) g2
    exact ⟨a, b, c, ha, hb, hc, wa, wb, wc⟩
theorem one_out {n : Nat} {v0 v1 v2 v3 : Value} {y : DataW H × List MemPlace} (h : DataW.trod enc Try.prog w base spare held n 65 [v0, v1, v2, v3] = some y) : ∃ o : Out4, [v0, v1, v2, v3] = outC o ∧ I4 o := by
  obtain ⟨xs, m, _, _, _, hlen, hg⟩ := DataW.trod_struct Try.underlying65 h
  match xs, hlen, hg with
  | [y0, y1], _, hg =>
    have g0 := hg 0 _ rfl
    have g1 := hg 1 _ rfl
    simp [c3, c63] at g0 g1
    obtain ⟨p, hp, wp⟩ := one_int (v := v0) (y := y0) g0
    obtain ⟨a, b, c, ha, hb, hc, wa, wb, wc⟩ := one_set (v0 := v1) (v1 := v2) (v2 := v3) (y := y1) g1
    refine ⟨(p, a, b, c), ?_, wp, wa, wb, wc⟩
    rw [hp, ha, hb, hc]; rfl
theorem flat_at {os : List Out4} {j : Nat} {u : Value} (h : (os.flatMap outC)[j]? = some u) : ∃ o, os[j / 4]? = some o ∧ (outC o)[j % 4]? = some u := by
  have hj : j < (os.flatMap outC).length := (List.getElem?_eq_some_iff.1 h).1
  have hl : (os.flatMap outC).length = os.length * 4 := by
    clear h hj
    induction os with
    | nil => rfl
    | cons x l ih => simp only [List.flatMap_cons, List.length_append, ih, List.length_cons, outC_len]; omega
  have hk : j / 4 < os.length := by omega
  refine ⟨os[j / 4], List.getElem?_eq_getElem hk, ?_⟩
  have := outs_at (k := j / 4) (o := os[j / 4]) (j := j % 4) (l := os) (List.getElem?_eq_getElem hk) (by omega)
  rw [← this, ← h]
  congr 1
  omega
theorem opened_outs {n : Nat} {v : Value} {y : DataW H × List MemPlace} (h : DataW.trod enc Try.prog w base spare held n 49 [v] = some y) :
    ∃ A N c os, v = .slice A N c ∧ Ou w w.heap.size A N os ∧ N ≤ c ∧ ∀ o ∈ os, I4 o := by
  rcases open_slice Try.underlying49 h with ⟨hcs, _⟩ | ⟨a, len, cap, m, n', D, Pl, hcs, _, hl, hm, hmm, _, hx⟩
  · obtain rfl : v = .slice none 0 0 := by simpa using hcs
    exact ⟨none, 0, 0, [], rfl, Ou.empty, Nat.le_refl _, fun o ho => by cases ho⟩
  · obtain rfl : v = .slice (some a) len cap := by simpa using hcs
    have hlm : len ≤ m := by rw [hmm]; split <;> omega
    have key : ∀ i, i < len → ∃ o : Out4, (∀ j, j < 4 → w.cell? (a.add (i * 4 + j)) = (outC o)[j]?) ∧ I4 o := by
      intro i hi
      obtain ⟨cs', h1, h2⟩ := hx i (by omega)
      rw [c65] at h1
      obtain ⟨_, hlen, hcell⟩ := World.cells?_some h1
      match cs', hlen, h2, hcell with
      | [v0, v1, v2, v3], _, h2, hcell =>
        obtain ⟨o, ho, wo⟩ := one_out h2
        refine ⟨o, fun j hj => ?_, wo⟩
        have := hcell j hj
        rw [ho] at this
        rw [← this]
        unfold Addr.add
        congr 1
        by_cases h0 : i * 4 = 0
        · have : i = 0 := by omega
          subst this
          simp
        · by_cases hj0 : j = 0
          · subst hj0; simp
          · simp [h0, hj0, Nat.add_assoc]
    obtain ⟨O, hO⟩ := choose_lt key
    refine ⟨some a, len, cap, (List.range len).map O, rfl, ⟨?_, fun hn => ?_⟩, hl, ?_⟩
    · have : ∀ os : List Out4, (os.flatMap outC).length = os.length * 4 := by
        intro os
        induction os with
        | nil => rfl
        | cons x l ih => simp only [List.flatMap_cons, List.length_append, ih, List.length_cons, outC_len]; omega
      rw [this]; simp
    · obtain ⟨b, off, spot⟩ := a
      have hc := (hO 0 hn).1 0 (by omega)
      have hspot : spot = none := by
        have e : (outC (O 0))[0]? = some (.int .i64 (O 0).1) := rfl
        rw [e] at hc
        simpa [Addr.add] using World.cell?_spot hc
      subst hspot
      refine ⟨b, off, rfl, ?_, fun j u hu => ?_⟩
      · rcases Nat.lt_or_ge b w.heap.size with hlt | hge
        · exact hlt
        · have e : (outC (O 0))[0]? = some (.int .i64 (O 0).1) := rfl
          rw [e] at hc
          simp [World.cell?, Addr.add, Array.getElem?_eq_none hge] at hc
      · obtain ⟨o, ho, hu2⟩ := flat_at hu
        have hk : j / 4 < len := by
          have := (List.getElem?_eq_some_iff.1 ho).1
          simpa using this
        have e : o = O (j / 4) := by
          simp [hk] at ho
          exact ho.symm
        subst e
        have h4 := (hO (j / 4) hk).1 (j % 4) (by omega)
        rw [hu2] at h4
        rw [← h4]
        rw [show j / 4 * 4 + j % 4 = j by omega]
        unfold Addr.add
        by_cases h0 : j = 0
        · subst h0; simp
        · simp [h0]
    · intro o ho
      obtain ⟨i, hi, rfl⟩ := List.mem_map.1 ho
      exact (hO i (List.mem_range.1 hi)).2
theorem opened_order {r : Reach} {b0 : Nat} {v : Value} {d : DataW H} {p : List MemPlace}
    (hv : Value.okWide Try.prog w r b0 53 v) (h : DataW.Trod enc Try.prog w base spare held 53 v d p) :
    ∃ o A N c, v = .agg (orC o A N c) ∧ Ou w w.heap.size A N o.r.os ∧ N ≤ c ∧ OI o := by
  obtain ⟨cs, rfl, hsz⟩ := okWide_struct Try.underlying53 hv
  rw [c53] at hsz
  obtain ⟨l⟩ := cs
  obtain ⟨fuel, hf⟩ := h
  obtain ⟨xs, n, _, _, _, hlen, hg⟩ := DataW.trod_struct Try.underlying53 hf
  match l, hsz, xs, hlen, hg with
  | [d0, d1, d2, d3, d4, d5, d6, d7, d8, d9, d10, d11, d12, d13, d14, d15, d16, d17, d18, d19, d20], _, [y0, y1, y2, y3, y4], _, hg =>
    have g0 := hg 0 _ rfl
    have g1 := hg 1 _ rfl
    have g2 := hg 2 _ rfl
    have g3 := hg 3 _ rfl
    have g4 := hg 4 _ rfl
    simp [c3, c51, c23] at g0 g1 g2 g3 g4
    obtain ⟨k, hk, wk⟩ := one_int (v := d0) (y := y0) g0
    obtain ⟨nn, hn, wn⟩ := one_int (v := d1) (y := y1) g1
    obtain ⟨mm, hm, wm⟩ := one_int (v := d2) (y := y2) g2
    have g3' : DataW.trod enc Try.prog w base spare held n 51 [d3, d4, d5, d6, d7, d8, d9, d10, d11, d12, d13, d14, d15] = some y3 := g3
    have g4' : DataW.trod enc Try.prog w base spare held n 23 [d16, d17, d18, d19, d20] = some y4 := g4
    clear hg g0 g1 g2 g3 g4
    obtain ⟨zs, n3, _, _, _, hlen3, hg3⟩ := DataW.trod_struct Try.underlying51 g3'
    obtain ⟨ws, n4, _, _, _, hlen4, hg4⟩ := DataW.trod_struct Try.underlying23 g4'
    match zs, hlen3, ws, hlen4, hg3, hg4 with
    | [z0, z1, z2, z3, z4, z5], _, [w0, w1, w2, w3, w4], _, hg3, hg4 =>
      have a0 := hg3 0 _ rfl
      have a1 := hg3 1 _ rfl
      have a2 := hg3 2 _ rfl
      have a3 := hg3 3 _ rfl
      have a4 := hg3 4 _ rfl
      have a5 := hg3 5 _ rfl
      have b0 := hg4 0 _ rfl
      have b1 := hg4 1 _ rfl
      have b2 := hg4 2 _ rfl
      have b3 := hg4 3 _ rfl
      have b4 := hg4 4 _ rfl
      simp [c3, c48, cSL] at a0 a1 a2 a3 a4 a5 b0 b1 b2 b3 b4
      obtain ⟨rk, hrk, wrk⟩ := one_int (v := d3) (y := z0) a0
      obtain ⟨rp, hrp, wrp⟩ := one_int (v := d4) (y := z1) a1
      obtain ⟨rt, hrt, wrt⟩ := one_int (v := d5) (y := z2) a2
      obtain ⟨ro, hro, wro⟩ := one_int (v := d6) (y := z3) a3
      obtain ⟨pf, hpf, wpf⟩ := one_int (v := d16) (y := w0) b0
      obtain ⟨pg, hpg, wpg⟩ := one_int (v := d17) (y := w1) b1
      obtain ⟨pt, hpt, wpt⟩ := one_int (v := d18) (y := w2) b2
      obtain ⟨pq, hpq, wpq⟩ := one_int (v := d19) (y := w3) b3
      obtain ⟨pn, hpn, wpn⟩ := one_int (v := d20) (y := w4) b4
      have a4' : DataW.trod enc Try.prog w base spare held n3 48 [d7, d8, d9, d10, d11, d12, d13, d14] = some z4 := a4
      have a5' : DataW.trod enc Try.prog w base spare held n3 49 [d15] = some z5 := a5
      clear hg3 hg4 a0 a1 a2 a3 a4 a5 b0 b1 b2 b3 b4 g3' g4'
      obtain ⟨A, N, c, os, hos, hO, hc, hI⟩ := opened_outs a5'
      obtain ⟨us, n5, _, _, _, hlen5, hg5⟩ := DataW.trod_struct Try.underlying48 a4'
      match us, hlen5, hg5 with
      | [u0, u1, u2, u3], _, hg5 =>
        have m0 := hg5 0 _ rfl
        have m1 := hg5 1 _ rfl
        have m2 := hg5 2 _ rfl
        have m3 := hg5 3 _ rfl
        simp [c3, c47] at m0 m1 m2 m3
        obtain ⟨ve, hve, wve⟩ := one_int (v := d7) (y := u0) m0
        obtain ⟨mp, hmp, wmp⟩ := one_int (v := d8) (y := u1) m1
        obtain ⟨e0, e1, e2, he0, he1, he2⟩ := one_head (v0 := d9) (v1 := d10) (v2 := d11) (y := u2) m2
        obtain ⟨f0, f1, f2, hf0, hf1, hf2⟩ := one_head (v0 := d12) (v1 := d13) (v2 := d14) (y := u3) m3
        subst hk hn hm hrk hrp hrt hro hpf hpg hpt hpq hpn hos hve hmp he0 he1 he2 hf0 hf1 hf2
        exact ⟨⟨k, nn, mm, ⟨rk, rp, rt, ro, ⟨ve, mp, e0, e1, e2, f0, f1, f2⟩, os⟩, ⟨pf, pg, pt, pq, pn⟩⟩, A, N, c, rfl, hO, hc, wk, wn, wm, ⟨wrk, wrp, wrt, wro, ⟨wve, wmp⟩, hI⟩, wpf, wpg, wpt, wpq, wpn⟩
end
end Go.Proofs.Ytfnnjaljnfphlaa
