/- SegParses: its walk. -/
import Derived.Test.YtfnnjaljnfphlaaSgv
import Derived.Test.YtfnnjaljnfphlaaL5s
import Derived.StillTailTactics
namespace Go.Proofs.Ytfnnjaljnfphlaa
open Go.RowKit
set_option maxRecDepth 100000
set_option maxHeartbeats 4000000
set_option linter.unusedSimpArgs false
set_option linter.unusedVariables false

theorem own_open {w : World} {b : Nat} {A : Option Addr} {N c : Nat} {l : List UInt8} (h : OwnB w b A N c l) : N = 0 ∨ ∃ g cur, A = some ⟨g, 0, none⟩ ∧ b ≤ g ∧ g < w.heap.size ∧ Bk w g 5 cur ∧ ∀ j, j < N → ∃ z, cur[j]? = some (.int .u8 z) := by
  rcases h.2 with ⟨_, h0⟩ | ⟨g, cap, cur, hv, hg, hh, hn, hm, hs, ht⟩
  · exact .inl h0
  · right
    injection hv with h1
    refine ⟨g, cur, h1, hg, (Array.getElem?_eq_some_iff.1 hh).1, hh, fun j hj => ?_⟩
    have hl : l.length = N := by have := h.1; simpa using this
    have h2 : (l.map byV)[j]? = some (byV (l[j]'(by omega))) := by rw [List.getElem?_map, List.getElem?_eq_getElem (by omega)]; rfl
    rw [← ht, List.getElem?_take, if_pos (by omega)] at h2
    exact ⟨_, by rw [← Array.getElem?_toList]; exact h2⟩
theorem own_max {w : World} {b : Nat} {A : Option Addr} {N c : Nat} {l : List UInt8} (h : OwnB w b A N c l) : N ≤ 9223372036854775807 := by
  rcases h.2 with ⟨_, h0⟩ | ⟨g, cap, cur, hv, hg, hh, hn, hm, hs, ht⟩
  · omega
  · have : maxLen = 9223372036854775807 := rfl
    omega
theorem segParses_walk (A : Option Addr) (N c : Nat) (l : List UInt8) (w : World) (hl : By w w.heap.size A N l) (hc : N ≤ c) (hN : N ≤ 140737488351232) :
    Calls Try.prog 10 #[.slice A N c] w fun e w' => e = .returned (.bool true) ∧ Below w.heap.size w w' := by
  have PA := fun A N c w hl hc => sparse_any A N c l w hl hc
  have RA := fun A N c w hl hc => rsparse_any A N c l w hl hc
  generalize spV l (spQ l).1 = k at PA RA
  generalize spV l (spQ l).2.1 = t at PA RA
  generalize spV l (spQ l).2.2.1 = f at PA RA
  generalize spV l (spQ l).2.2.2.1 = h at PA RA
  generalize spV l (spQ l).2.2.2.2.1 = ep at PA RA
  generalize spV l (spQ l).2.2.2.2.2.1 = bo at PA RA
  generalize spV l (spQ l).2.2.2.2.2.2.1 = sq at PA RA
  generalize spV l (spQ l).2.2.2.2.2.2.2 = ac at PA RA
  generalize spE l = E at PA RA
  generalize spL l = tx at PA RA
  unfold sgC at PA RA
  have PAh := Lib.hid PA
  have RAh := Lib.hid RA
  clear PA RA
  go_enter Try.func10, Try.ntmps10
  go_wp2_with fail
  refine (copy_any A N c w.heap.size l w hl (by omega)).mono ?_
  rintro e w1 ⟨A1, N1, c1, rfl, hO1, hb1⟩
  have hI := hO1.by_
  have hc1 := hO1.cap
  have hl1 := hl.kept hb1
  have hN1 := hO1.len
  clear hO1
  go_wp2_with fail
  refine (PAh.out A1 N1 c1 w1 hI hc1).mono ?_
  rintro e w2 ⟨A2, N2, c2, rfl, hO2, hb2⟩
  have hI2 := hI.below hb2
  have hl2 := hl1.below hb2
  have hB2 := hb1.next hb2
  have KP := Bk.new w2 34 #[.int .i64 k, .int .i64 t, .int .i64 f, .int .i64 h, .int .i64 ep, .int .i64 bo, .int .i64 sq, .int .i64 ac, .slice A2 N2 c2]
  have hO2' := hO2.next ((Below.refl w2.heap.size w2).push (.cells #[.int .i64 k, .int .i64 t, .int .i64 f, .int .i64 h, .int .i64 ep, .int .i64 bo, .int .i64 sq, .int .i64 ac, .slice A2 N2 c2] 34))
  have hB2 := hB2.push (.cells #[.int .i64 k, .int .i64 t, .int .i64 f, .int .i64 h, .int .i64 ep, .int .i64 bo, .int .i64 sq, .int .i64 ac, .slice A2 N2 c2] 34)
  have hI2 := hI2.alloc (by have := hb2.size; omega) (.cells #[.int .i64 k, .int .i64 t, .int .i64 f, .int .i64 h, .int .i64 ep, .int .i64 bo, .int .i64 sq, .int .i64 ac, .slice A2 N2 c2] 34)
  have hl2 := hl2.alloc (by have := hb2.size; omega) (.cells #[.int .i64 k, .int .i64 t, .int .i64 f, .int .i64 h, .int .i64 ep, .int .i64 bo, .int .i64 sq, .int .i64 ac, .slice A2 N2 c2] 34)
  have hz : w1.heap.size ≤ w2.heap.size := hb2.size
  have hOw := own_open hO2
  have hMax := own_max hO2
  clear hO2
  go_wp2_with fail
  refine (RAh.out A N c _ (hl2.more (by simp; omega)) hc).mono ?_
  rintro e w3 ⟨A3, N3, c3, rfl, hO3, hb3⟩
  have KP := (KP.kept hb3).alloc (.cells #[.int .i64 k, .int .i64 t, .int .i64 f, .int .i64 h, .int .i64 ep, .int .i64 bo, .int .i64 sq, .int .i64 ac, .slice A3 N3 c3] 34)
  have hO3' := hO3.next ((Below.refl w3.heap.size w3).push (.cells #[.int .i64 k, .int .i64 t, .int .i64 f, .int .i64 h, .int .i64 ep, .int .i64 bo, .int .i64 sq, .int .i64 ac, .slice A3 N3 c3] 34))
  have hO2' := (hO2'.next hb3).next ((Below.refl w3.heap.size w3).push (.cells #[.int .i64 k, .int .i64 t, .int .i64 f, .int .i64 h, .int .i64 ep, .int .i64 bo, .int .i64 sq, .int .i64 ac, .slice A3 N3 c3] 34))
  have hI2 := (hI2.below (hb3.mono (by simp; omega))).alloc (by have := hb3.size; simp at this; omega) (.cells #[.int .i64 k, .int .i64 t, .int .i64 f, .int .i64 h, .int .i64 ep, .int .i64 bo, .int .i64 sq, .int .i64 ac, .slice A3 N3 c3] 34)
  have hl2 := (hl2.below (hb3.mono (by simp; omega))).alloc (by have := hb3.size; simp at this; omega) (.cells #[.int .i64 k, .int .i64 t, .int .i64 f, .int .i64 h, .int .i64 ep, .int .i64 bo, .int .i64 sq, .int .i64 ac, .slice A3 N3 c3] 34)
  have KQ := Bk.new w3 34 #[.int .i64 k, .int .i64 t, .int .i64 f, .int .i64 h, .int .i64 ep, .int .i64 bo, .int .i64 sq, .int .i64 ac, .slice A3 N3 c3]
  have hB3 := (hB2.next hb3).push (.cells #[.int .i64 k, .int .i64 t, .int .i64 f, .int .i64 h, .int .i64 ep, .int .i64 bo, .int .i64 sq, .int .i64 ac, .slice A3 N3 c3] 34)
  have hz3 : w2.heap.size < w3.heap.size := by have := hb3.size; simp at this; omega
  have SM := rsame_any k t f h ep bo sq ac A2 N2 c2 tx k t f h ep bo sq ac A3 N3 c3 tx _ hO2'.by_ hO3'.by_
  rw [smB_self] at SM
  unfold sgC at SM
  have SMh := Lib.hid SM
  have HOw : N2 = 0 ∨ ∃ g cur, A2 = some ⟨g, 0, none⟩ ∧ w1.heap.size ≤ g ∧ g < w2.heap.size ∧ Bk (w3.alloc (.cells #[.int .i64 k, .int .i64 t, .int .i64 f, .int .i64 h, .int .i64 ep, .int .i64 bo, .int .i64 sq, .int .i64 ac, .slice A3 N3 c3] 34)) g 5 cur ∧ ∀ j, j < N2 → ∃ z, cur[j]? = some (.int .u8 z) := by
    rcases hOw with h0 | ⟨g, cur, h1, h2, h3, h4, h5⟩
    · exact .inl h0
    · exact .inr ⟨g, cur, h1, h2, h3, (((h4.alloc _).kept hb3).alloc _), h5⟩
  clear SM hO2' hO3' hOw hO3 hb3 hB2 PAh RAh
  obtain ⟨c0, c1', c2', c3', c4, c5, c6, c7, c8, f0⟩ := KP.nine
  obtain ⟨d0, d1, d2, d3, d4, d5, d6, d7, d8, g0⟩ := KQ.nine
  go_wp2_with fail
  refine SMh.out.mono ?_
  rintro e w5 ⟨rfl, hb5⟩
  have hB5 := hB3.next hb5
  have hI5 := hI2.below (hb5.mono (by simp; omega))
  have hl5 := hl2.below (hb5.mono (by simp; omega))
  have KP := KP.kept hb5
  have HOw5 : N2 = 0 ∨ ∃ g cur, A2 = some ⟨g, 0, none⟩ ∧ w1.heap.size ≤ g ∧ g < w2.heap.size ∧ Bk w5 g 5 cur ∧ ∀ j, j < N2 → ∃ z, cur[j]? = some (.int .u8 z) := by
    rcases HOw with h0 | ⟨g, cur, h1, h2, h3, h4, h5⟩
    · exact .inl h0
    · exact .inr ⟨g, cur, h1, h2, h3, h4.kept hb5, h5⟩
  have hzb : w1.heap.size ≤ w5.heap.size := by have := hb5.size; simp at this; omega
  have hbw : w.heap.size ≤ w1.heap.size := hb1.size
  clear c0 c1' c2' c3' c4 c5 c6 c7 c8 f0 d0 d1 d2 d3 d4 d5 d6 d7 d8 g0 KQ SMh HOw hB3 hI2 hl2 hb5
  have EQ := Lib.hid (fun (w : World) (h1 : By w w1.heap.size A1 N1 l) (h2 : By w w1.heap.size A N l) => eqbytes_any A1 A N1 c1 N c _ _ l l w h1 h2)
  have ELL : (l == l) = true := by simp
  go_wp2_with fail
  refine (EQ.out _ hI5 hl5).mono ?_
  rintro e w6 ⟨rfl, rfl⟩
  simp only [ELL]
  go_wp2_with fail
  go_loopw [8] (fun i wr => ∃ k0 : Nat, k0 ≤ N2 ∧ i = .int .i64 k0 ∧ Bk wr w2.heap.size 34 #[.int .i64 k, .int .i64 t, .int .i64 f, .int .i64 h, .int .i64 ep, .int .i64 bo, .int .i64 sq, .int .i64 ac, .slice A2 N2 c2] ∧ (N2 = 0 ∨ ∃ g cur, A2 = some ⟨g, 0, none⟩ ∧ w1.heap.size ≤ g ∧ g < w2.heap.size ∧ Bk wr g 5 cur ∧ ∀ j, j < N2 → ∃ z, cur[j]? = some (.int .u8 z)) ∧ By wr w1.heap.size A1 N1 l ∧ By wr w1.heap.size A N l ∧ Below w.heap.size w wr)
    (fun i _ => N2 - (intOf i).toNat)
  case atStart => exact ⟨0, by omega, rfl, KP, HOw5, hI5, hl5, hB5⟩
  case round =>
    clear KP HOw5 hI5 hl5 hB5
    obtain ⟨k0, hk0, rfl, KP, HO, hI5, hl5, hB5⟩ := hrel
    obtain ⟨c0, c1', c2', c3', c4, c5, c6, c7, c8, f0⟩ := KP.nine
    clear c0 c1' c2' c3' c4 c5 c6 c7
    by_cases hlt : k0 < N2
    · rcases HO with h0 | ⟨g, cur, rfl, h2, h3, h4, h5⟩
      · omega
      have hk2 : (k0 : Int) < (N2 : Int) := by omega
      have hk3 : (0 : Int) ≤ (k0 : Int) := by omega
      obtain ⟨z, hz0⟩ := h5 k0 hlt
      have cz : wr.cell? ⟨g, k0, none⟩ = some (.int .u8 z) := by rw [h4.cell]; exact hz0
      have fz := h4.frozen
      have H5 := Lib.hid h5
      have HZ0 := Lib.hid hz0
      clear h5 hz0
      go_upto_region 9 with fail
      go_still_tail 10, (by kernel_rfl)
      change wpList _ _ _ _ _ wr.drew
      have KPd : Bk wr.drew w2.heap.size 34 _ := KP
      have h4d : Bk wr.drew g 5 cur := h4
      have hId : By wr.drew w1.heap.size A1 N1 l := hI5
      have hld : By wr.drew w1.heap.size A N l := hl5
      have hBd := hB5.drew
      have c8d : wr.drew.cell? ⟨w2.heap.size, 8, none⟩ = some (.slice (some ⟨g, 0, none⟩) N2 c2) := c8
      have czd : wr.drew.cell? ⟨g, k0, none⟩ = some (.int .u8 z) := cz
      have fzd : ∀ i, wr.drew.frozen? ⟨g, i, none⟩ = false := fz
      clear KP h4 hI5 hl5 hB5 c8 cz fz f0
      generalize wr.drew = wd at *
      go_wp2_with fail
      go_roundw
      case rel =>
        refine ⟨k0 + 1, by omega, by go_num, KPd.far (p := ⟨g, k0, none⟩) (by simp; omega) _, .inr ⟨g, _, rfl, h2, h3, h4d.set_ k0 _, fun j hj => ?_⟩, hId.setCell (p := ⟨g, k0, none⟩) h2 _, hld.setCell (p := ⟨g, k0, none⟩) h2 _, hBd.setCell (p := ⟨g, k0, none⟩) (by simp; omega) _⟩
        by_cases hjk : k0 = j
        · subst hjk
          have hlt2 : k0 < cur.size := (Array.getElem?_eq_some_iff.1 HZ0.out).1
          exact ⟨_, by rw [Array.getElem?_setIfInBounds_self, if_pos hlt2]⟩
        · obtain ⟨z', hz'⟩ := H5.out j hj
          exact ⟨z', by rw [Array.getElem?_setIfInBounds_ne hjk]; exact hz'⟩
      case measure => simp [intOf]; omega
    · obtain rfl : k0 = N2 := by omega
      go_wp2_with fail
      refine (EQ.out _ hI5 hl5).mono ?_
      rintro e w6 ⟨rfl, rfl⟩
      simp only [ELL]
      go_wp2_with fail
      refine (works05 _).mono ?_
      rintro e w7 ⟨rfl, hb7⟩
      go_wp2_with fail
      go_ret
      exact ⟨rfl, hB5.next hb7⟩
end Go.Proofs.Ytfnnjaljnfphlaa
