/- SegBack: its walk. -/
import Derived.Test.YtfnnjaljnfphlaaSgo
import Derived.Test.YtfnnjaljnfphlaaSgm
import Derived.Test.YtfnnjaljnfphlaaL5s
import Derived.Test.YtfnnjaljnfphlaaL5b
import Derived.Test.YtfnnjaljnfphlaaPpa
namespace Go.Proofs.Ytfnnjaljnfphlaa
open Go.RowKit
set_option maxRecDepth 100000
set_option maxHeartbeats 4000000
set_option linter.unusedSimpArgs false
set_option linter.unusedVariables false

theorem Bk.set9 {w : World} {g : Nat} {t : TypeId} {v0 v1 v2 v3 v4 v5 v6 v7 v8 : Value} (h : Bk w g t #[v0, v1, v2, v3, v4, v5, v6, v7, v8]) (a0 a1 a2 a3 a4 a5 a6 a7 a8 : Value) :
    Bk (((((((((w.setCell ⟨g, 0, none⟩ a0).setCell ⟨g, 1, none⟩ a1).setCell ⟨g, 2, none⟩ a2).setCell ⟨g, 3, none⟩ a3).setCell ⟨g, 4, none⟩ a4).setCell ⟨g, 5, none⟩ a5).setCell ⟨g, 6, none⟩ a6).setCell ⟨g, 7, none⟩ a7).setCell ⟨g, 8, none⟩ a8) g t #[a0, a1, a2, a3, a4, a5, a6, a7, a8] := by
  have := ((((((((h.set_ 0 a0).set_ 1 a1).set_ 2 a2).set_ 3 a3).set_ 4 a4).set_ 5 a5).set_ 6 a6).set_ 7 a7).set_ 8 a8
  simpa using this
theorem below_set9 {w w1 : World} {g : Nat} (h : Below w.heap.size w w1) (hg : w.heap.size ≤ g) (a0 a1 a2 a3 a4 a5 a6 a7 a8 : Value) :
    Below w.heap.size w (((((((((w1.setCell ⟨g, 0, none⟩ a0).setCell ⟨g, 1, none⟩ a1).setCell ⟨g, 2, none⟩ a2).setCell ⟨g, 3, none⟩ a3).setCell ⟨g, 4, none⟩ a4).setCell ⟨g, 5, none⟩ a5).setCell ⟨g, 6, none⟩ a6).setCell ⟨g, 7, none⟩ a7).setCell ⟨g, 8, none⟩ a8) :=
  ((((((((h.setCell hg _).setCell hg _).setCell hg _).setCell hg _).setCell hg _).setCell hg _).setCell hg _).setCell hg _).setCell hg _
theorem By.but {w w' : World} {B g n : Nat} {A : Option Addr} {l : List UInt8} {t : TypeId} {cs : Array Value} (h : By w B A n l) (hb : Bk w g t cs) (hk : ∀ v ∈ cs.toList, ∀ x, v ≠ .int .u8 x) (he : ∀ b, b ≠ g → w'.heap[b]? = w.heap[b]?) : By w' B A n l :=
  ⟨h.1, fun hn => by
    obtain ⟨b, off, e, hlt, hc⟩ := h.2 hn
    refine ⟨b, off, e, hlt, fun j v hv => ?_⟩
    have h1 := hc j v hv
    by_cases hbg : b = g
    · subst hbg
      rw [hb.cell] at h1
      obtain ⟨c, _, rfl⟩ := List.mem_map.1 (List.mem_of_getElem? hv)
      exact absurd rfl (hk _ (by rw [← Array.getElem?_toList] at h1; exact List.mem_of_getElem? h1) _)
    · exact (World.cell?_of_block (he b hbg)).trans h1⟩
theorem far9 (w : World) (g b : Nat) (hb : b ≠ g) (a0 a1 a2 a3 a4 a5 a6 a7 a8 : Value) :
    (((((((((w.setCell ⟨g, 0, none⟩ a0).setCell ⟨g, 1, none⟩ a1).setCell ⟨g, 2, none⟩ a2).setCell ⟨g, 3, none⟩ a3).setCell ⟨g, 4, none⟩ a4).setCell ⟨g, 5, none⟩ a5).setCell ⟨g, 6, none⟩ a6).setCell ⟨g, 7, none⟩ a7).setCell ⟨g, 8, none⟩ a8).heap[b]? = w.heap[b]? := by
  have h := fun (W : World) (i : Nat) (u : Value) => Below.heap_setCell W ⟨g, i, none⟩ u b hb
  rw [h, h, h, h, h, h, h, h, h]
theorem size9 (w : World) (g : Nat) (a0 a1 a2 a3 a4 a5 a6 a7 a8 : Value) :
    (((((((((w.setCell ⟨g, 0, none⟩ a0).setCell ⟨g, 1, none⟩ a1).setCell ⟨g, 2, none⟩ a2).setCell ⟨g, 3, none⟩ a3).setCell ⟨g, 4, none⟩ a4).setCell ⟨g, 5, none⟩ a5).setCell ⟨g, 6, none⟩ a6).setCell ⟨g, 7, none⟩ a7).setCell ⟨g, 8, none⟩ a8).heap.size = w.heap.size := by simp

theorem sgOk_I64 {k t f h ep bo sq ac : Int} {N : Nat} (hs : SgOk k t f h ep bo sq ac N) : I64 k ∧ I64 t ∧ I64 f ∧ I64 h ∧ I64 ep ∧ I64 bo ∧ I64 sq ∧ I64 ac := by
  unfold SgOk at hs
  unfold I64
  omega
/-- Parse of the bytes of a segment that may be. -/
theorem sparse_fore {k t f h ep bo sq ac : Int} {A : Option Addr} {N c : Nat} {l : List UInt8} {w : World} (hok : SgOk k t f h ep bo sq ac l.length) (hl : By w w.heap.size A N (sgB k t f h ep bo sq ac l)) (hc : N ≤ c) :
    Calls Try.prog 45 #[.slice A N c] w fun e w' => ∃ A' c', e = .returned (.tuple #[.agg (sgC k t f h ep bo sq ac A' l.length c'), .int .i64 0]) ∧ OwnB w' w.heap.size A' l.length c' l ∧ Below w.heap.size w w' := by
  refine (sparse_any A N c _ w hl hc).mono ?_
  rintro e w' ⟨A', N', c', rfl, hO, hb⟩
  obtain ⟨h0, hq, ht⟩ := sp_fore hok
  have hL : spL (sgB k t f h ep bo sq ac l) = l := by rw [spL_ok h0, ht]
  rw [hL] at hO
  obtain rfl : l.length = N' := hO.len
  have hok2 := hok
  unfold SgOk at hok2
  refine ⟨A', c', ?_, hO, hb⟩
  simp only [spV_ok h0, hq, h0]
  rw [show ((k.toNat : Nat) : Int) = k by omega, show ((t.toNat : Nat) : Int) = t by omega, show ((f.toNat : Nat) : Int) = f by omega, show ((h.toNat : Nat) : Int) = h by omega, show ((ep.toNat : Nat) : Int) = ep by omega, show ((bo.toNat : Nat) : Int) = bo by omega, show ((sq.toNat : Nat) : Int) = sq by omega, show ((ac.toNat : Nat) : Int) = ac by omega]

theorem segBack_walk (k t f h ep bo sq ac : Int) (A : Option Addr) (N c : Nat) (l : List UInt8) (w : World) (y1 : I64 k) (y2 : I64 t) (y3 : I64 f) (y4 : I64 h) (y5 : I64 ep) (y6 : I64 bo) (y7 : I64 sq) (y8 : I64 ac) (hl : By w w.heap.size A N l) (hc : N ≤ c) :
    Calls Try.prog 11 #[.agg (sgC k t f h ep bo sq ac A N c)] w fun e w' => e = .returned (.bool true) ∧ Below w.heap.size w w' := by
  have K := Bk.new w 34 (sgC k t f h ep bo sq ac A N c)
  have hb := (Below.refl w.heap.size w).push (.cells (sgC k t f h ep bo sq ac A N c) 34)
  have hlw := hl.boxed (.cells (sgC k t f h ep bo sq ac A N c) 34)
  unfold sgC at K hb hlw ⊢
  go_enter Try.func11, Try.ntmps11
  go_upto_region 1 with fail
  generalize w.alloc _ = w1 at K hb hlw ⊢
  go_wp2_with fail
  refine (works05 _).mono ?_
  rintro e w2 ⟨rfl, hb2⟩
  have K := K.kept hb2
  have hb := hb.next hb2
  have hlw := hlw.kept hb2
  go_wp2_with fail
  go_loopw [3] (fun i wr => ∃ (j : Nat) (k t f h ep bo sq ac : Int) (A : Option Addr) (N c : Nat) (l : List UInt8), j ≤ 2 ∧ i = .int .i64 j ∧ (I64 k ∧ I64 t ∧ I64 f ∧ I64 h ∧ I64 ep ∧ I64 bo ∧ I64 sq ∧ I64 ac) ∧ Hid (1 ≤ j → SgOk k t f h ep bo sq ac N) ∧
      Bk wr w.heap.size 34 #[.int .i64 k, .int .i64 t, .int .i64 f, .int .i64 h, .int .i64 ep, .int .i64 bo, .int .i64 sq, .int .i64 ac, .slice A N c] ∧ By wr wr.heap.size A N l ∧ N ≤ c ∧ Below w.heap.size w wr)
      (fun i _ => 2 - (intOf i).toNat)
  case atStart => exact ⟨0, k, t, f, h, ep, bo, sq, ac, A, N, c, l, by omega, rfl, ⟨y1, y2, y3, y4, y5, y6, y7, y8⟩, (fun h => by omega), K, hlw, hc, hb⟩
  case round =>
    obtain ⟨j, k, t, f, h, ep, bo, sq, ac, A, N, c, l, hj, rfl, HI, HO, K, hl, hc, hb⟩ := hrel
    have HI := Lib.hid HI
    rename_i HI0
    clear HI0
    by_cases hlt : j < 2
    · have hj2 : ((j : Int) < 2) := by omega
      obtain ⟨c0, c1, c2, c3, c4, c5, c6, c7, c8, f0⟩ := K.nine
      have hlen := Lib.hid hl.len
      by_cases hok : SgOk k t f h ep bo sq ac N
      · have SB := sbytes_any k t f h ep bo sq ac A N c l wr hl hok
        have hokl : SgOk k t f h ep bo sq ac l.length := by rw [hlen.out]; exact hok
        unfold sgC at SB
        go_wp2_with fail
        refine SB.mono ?_
        rintro e w3 ⟨A3, N3, c3', rfl, hO3, hb3⟩
        have K := K.kept hb3
        have hb := hb.next hb3
        have hl := hl.kept hb3
        have SP := sparse_fore hokl hO3.by_ hO3.cap
        unfold sgC at SP
        clear c0 c1 c2 c3 c4 c5 c6 c7 c8 f0 SB hb3 hO3
        go_wp2_with fail
        refine SP.mono ?_
        rintro e w4 ⟨A4, c4', rfl, hO4, hb4⟩
        have K := K.kept hb4
        have hb := hb.next hb4
        have hl := hl.kept hb4
        have hx := hO4.by_
        clear SP hb4 hO4
        have KX := Bk.new w4 34 #[.int .i64 k, .int .i64 t, .int .i64 f, .int .i64 h, .int .i64 ep, .int .i64 bo, .int .i64 sq, .int .i64 ac, .slice A4 l.length c4']
        have K := K.alloc (.cells #[.int .i64 k, .int .i64 t, .int .i64 f, .int .i64 h, .int .i64 ep, .int .i64 bo, .int .i64 sq, .int .i64 ac, .slice A4 l.length c4'] 34)
        have hb := hb.push (.cells #[.int .i64 k, .int .i64 t, .int .i64 f, .int .i64 h, .int .i64 ep, .int .i64 bo, .int .i64 sq, .int .i64 ac, .slice A4 l.length c4'] 34)
        have hl := hl.boxed (.cells #[.int .i64 k, .int .i64 t, .int .i64 f, .int .i64 h, .int .i64 ep, .int .i64 bo, .int .i64 sq, .int .i64 ac, .slice A4 l.length c4'] 34)
        have hx := hx.boxed (.cells #[.int .i64 k, .int .i64 t, .int .i64 f, .int .i64 h, .int .i64 ep, .int .i64 bo, .int .i64 sq, .int .i64 ac, .slice A4 l.length c4'] 34)
        obtain ⟨d0, d1, d2, d3, d4, d5, d6, d7, d8, e0⟩ := KX.nine
        obtain ⟨c0, c1, c2, c3, c4, c5, c6, c7, c8, f0⟩ := K.nine
        have SM := same_any k t f h ep bo sq ac A4 l.length c4' l k t f h ep bo sq ac A N c l _ hx hl
        rw [smB_self] at SM
        unfold sgC at SM
        go_wp2_with fail
        refine SM.mono ?_
        rintro e w5 ⟨rfl, hb5⟩
        have K := K.kept hb5
        have hb := hb.next hb5
        have hl := hl.kept hb5
        clear SM c0 c1 c2 c3 c4 c5 c6 c7 c8 f0 d0 d1 d2 d3 d4 d5 d6 d7 d8 e0 KX hx hb5
        obtain ⟨c0, c1, c2, c3, c4, c5, c6, c7, c8, f0⟩ := K.nine
        have SC := scheck_any k t f h ep bo sq ac A N c w5
        rw [sgE_ok hok] at SC
        unfold sgC at SC
        go_wp2_with fail
        refine SC.mono ?_
        rintro e w6 ⟨rfl, hb6⟩
        have K := K.kept hb6
        have hb := hb.next hb6
        have hl := hl.kept hb6
        clear SC c0 c1 c2 c3 c4 c5 c6 c7 c8 f0 hb6
        obtain ⟨c0, c1, c2, c3, c4, c5, c6, c7, c8, f0⟩ := K.nine
        obtain ⟨y1, y2, y3, y4, y5, y6, y7, y8⟩ := HI.out
        have MD := made05_any k t f h ep bo sq ac A N c l w6 y1 y2 y3 y4 y5 y6 y7 y8 hl hc
        unfold sgC at MD
        clear y1 y2 y3 y4 y5 y6 y7 y8
        go_wp2_with fail
        refine MD.mono ?_
        rintro e w7 ⟨k', t', f', h', ep', bo', sq', ac', A', N', c', l', rfl, hok', hl', hc', hb7⟩
        have K := K.kept hb7
        have hb := hb.next hb7
        clear MD c0 c1 c2 c3 c4 c5 c6 c7 c8 f0 hb7
        obtain ⟨c0, c1, c2, c3, c4, c5, c6, c7, c8, f0⟩ := K.nine
        go_wp2_with fail
        go_roundw
        case rel =>
          refine ⟨j + 1, k', t', f', h', ep', bo', sq', ac', A', N', c', l', by omega, by go_num, sgOk_I64 hok', fun _ => hok', K.set9 _ _ _ _ _ _ _ _ _, ?_, hc', below_set9 hb (Nat.le_refl _) _ _ _ _ _ _ _ _ _⟩
          rw [size9]
          exact hl'.but K kind9 (fun b hne => far9 _ _ _ hne _ _ _ _ _ _ _ _ _)
        case measure => simp [intOf]; omega
      · have hj0 : j = 0 := by
          by_cases h0 : j = 0
          · exact h0
          · exact absurd (HO.out (by omega)) hok
        subst hj0
        have SB := sbytes_no k t f h ep bo sq ac A N c wr hok
        unfold sgC at SB
        go_wp2_with fail
        refine SB.mono ?_
        rintro e w3 ⟨rfl, hb3⟩
        have K := K.kept hb3
        have hb := hb.next hb3
        have hl := hl.kept hb3
        clear c0 c1 c2 c3 c4 c5 c6 c7 c8 f0 SB hb3
        obtain ⟨c0, c1, c2, c3, c4, c5, c6, c7, c8, f0⟩ := K.nine
        have SC := scheck_any k t f h ep bo sq ac A N c w3
        rw [sgE_no hok] at SC
        unfold sgC at SC
        go_wp2_with fail
        refine SC.mono ?_
        rintro e w6 ⟨rfl, hb6⟩
        have K := K.kept hb6
        have hb := hb.next hb6
        have hl := hl.kept hb6
        clear SC c0 c1 c2 c3 c4 c5 c6 c7 c8 f0 hb6
        obtain ⟨c0, c1, c2, c3, c4, c5, c6, c7, c8, f0⟩ := K.nine
        obtain ⟨y1, y2, y3, y4, y5, y6, y7, y8⟩ := HI.out
        have MD := made05_any k t f h ep bo sq ac A N c l w6 y1 y2 y3 y4 y5 y6 y7 y8 hl hc
        unfold sgC at MD
        clear y1 y2 y3 y4 y5 y6 y7 y8
        go_wp2_with fail
        refine MD.mono ?_
        rintro e w7 ⟨k', t', f', h', ep', bo', sq', ac', A', N', c', l', rfl, hok', hl', hc', hb7⟩
        have K := K.kept hb7
        have hb := hb.next hb7
        clear MD c0 c1 c2 c3 c4 c5 c6 c7 c8 f0 hb7
        obtain ⟨c0, c1, c2, c3, c4, c5, c6, c7, c8, f0⟩ := K.nine
        go_wp2_with fail
        go_roundw
        case rel =>
          refine ⟨1, k', t', f', h', ep', bo', sq', ac', A', N', c', l', by omega, by go_num, sgOk_I64 hok', fun _ => hok', K.set9 _ _ _ _ _ _ _ _ _, ?_, hc', below_set9 hb (Nat.le_refl _) _ _ _ _ _ _ _ _ _⟩
          rw [size9]
          exact hl'.but K kind9 (fun b hne => far9 _ _ _ hne _ _ _ _ _ _ _ _ _)
        case measure => simp [intOf]
    · obtain rfl : j = 2 := by omega
      go_wp2_with fail
      go_ret
      exact ⟨rfl, hb⟩
end Go.Proofs.Ytfnnjaljnfphlaa
