/- SegTurned: its walk. -/
import Derived.Test.YtfnnjaljnfphlaaL5k
import Derived.Test.YtfnnjaljnfphlaaSgx
namespace Go.Proofs.Ytfnnjaljnfphlaa
open Go.RowKit
set_option maxRecDepth 100000
set_option maxHeartbeats 4000000
set_option linter.unusedSimpArgs false
set_option linter.unusedVariables false

theorem u8_xor_byte (c d : UInt8) : bits BinOp.xor IntKind.u8 (c.toNat : Int) (d.toNat : Int) = ((c ^^^ d).toNat : Int) := by
  have hc := byte_lt c
  have hd := byte_lt d
  have hx := byte_lt (c ^^^ d)
  rw [u8_xor _ _ (by omega) (by omega) (by omega) (by omega)]
  simp
theorem xor_ne {c d : UInt8} (h : d ≠ 0) : c ≠ c ^^^ d := by
  intro e
  apply h
  have := congrArg (c ^^^ ·) e
  simpa [← UInt8.xor_assoc] using this.symm
/-- Parse of the bytes with a byte turned. -/
theorem sp_turned {k t f h ep bo sq ac : Int} {l : List UInt8} {j : Nat} {c : UInt8} (hok : SgOk k t f h ep bo sq ac l.length) (hj : j < (sgB k t f h ep bo sq ac l).length) (hc : (sgB k t f h ep bo sq ac l)[j]? ≠ some c) :
    spE ((sgB k t f h ep bo sq ac l).set j c) = 30 := by
  obtain ⟨h0, _, _⟩ := sp_fore hok
  have h1 : (openB (sgB k t f h ep bo sq ac l)).2.2 = 0 := by
    unfold spE at h0
    split at h0
    · rename_i hne; exact absurd h0 hne
    · rename_i hne; simpa using hne
  have h2 := turned_bad (l := sgB k t f h ep bo sq ac l) (i := j) (c := c) (by rw [← h1]) hj hc
  unfold spE
  rw [h2, if_pos (by decide)]
theorem sgB_len (k t f h ep bo sq ac : Int) (l : List UInt8) : (sgB k t f h ep bo sq ac l).length = 21 + l.length := by
  simp [sgB, sealB, be_len]
  omega

theorem segTurned_walk (k t f h ep bo sq ac : Int) (A : Option Addr) (N c : Nat) (l : List UInt8) (at' bits' : Int) (w : World) (y1 : I64 k) (y2 : I64 t) (y3 : I64 f) (y4 : I64 h) (y5 : I64 ep) (y6 : I64 bo) (y7 : I64 sq) (y8 : I64 ac) (hl : By w w.heap.size A N l) (hc : N ≤ c)
    (ya : I64 at') (yb : 0 ≤ bits' ∧ bits' ≤ 255) :
    Calls Try.prog 13 #[.agg (sgC k t f h ep bo sq ac A N c), .int .i64 at', .int .u8 bits'] w fun e w' => e = .returned (.bool true) ∧ Below w.heap.size w w' := by
  obtain ⟨d, hd⟩ : ∃ d : UInt8, bits' = (d.toNat : Int) := ⟨UInt8.ofNat bits'.toNat, by simp; omega⟩
  subst hd
  clear yb
  have K := Bk.new w 34 (sgC k t f h ep bo sq ac A N c)
  have hb := (Below.refl w.heap.size w).push (.cells (sgC k t f h ep bo sq ac A N c) 34)
  have hlw := hl.boxed (.cells (sgC k t f h ep bo sq ac A N c) 34)
  have MD := made05_any k t f h ep bo sq ac A N c l _ y1 y2 y3 y4 y5 y6 y7 y8 hlw hc
  unfold sgC at K hb hlw MD ⊢
  clear y1 y2 y3 y4 y5 y6 y7 y8
  go_enter Try.func13, Try.ntmps13
  go_upto_region 1 with fail
  generalize w.alloc _ = w1 at K hb hlw MD ⊢
  obtain ⟨c0, c1, c2, c3, c4, c5, c6, c7, c8, f0⟩ := K.nine
  have MDh := Lib.hid MD
  clear MD
  go_wp2_with fail
  refine MDh.out.mono ?_
  rintro e w2 ⟨k', t', f', h', ep', bo', sq', ac', A', N', c', l', rfl, hok', hl', hc', hb2⟩
  have K := K.kept hb2
  have hb := hb.next hb2
  clear MDh c0 c1 c2 c3 c4 c5 c6 c7 c8 f0 hb2 hlw hl hc
  obtain ⟨c0, c1, c2, c3, c4, c5, c6, c7, c8, f0⟩ := K.nine
  go_upto_region 2 with fail
  have K2 := K.set9 (.int .i64 k') (.int .i64 t') (.int .i64 f') (.int .i64 h') (.int .i64 ep') (.int .i64 bo') (.int .i64 sq') (.int .i64 ac') (.slice A' N' c')
  have hb := below_set9 hb (Nat.le_refl _) (.int .i64 k') (.int .i64 t') (.int .i64 f') (.int .i64 h') (.int .i64 ep') (.int .i64 bo') (.int .i64 sq') (.int .i64 ac') (.slice A' N' c')
  have hl2 := hl'.but K kind9 (fun b hne => far9 w2 _ _ hne (.int .i64 k') (.int .i64 t') (.int .i64 f') (.int .i64 h') (.int .i64 ep') (.int .i64 bo') (.int .i64 sq') (.int .i64 ac') (.slice A' N' c'))
  rw [← size9 w2 w.heap.size (.int .i64 k') (.int .i64 t') (.int .i64 f') (.int .i64 h') (.int .i64 ep') (.int .i64 bo') (.int .i64 sq') (.int .i64 ac') (.slice A' N' c')] at hl2
  generalize (((((((((w2.setCell _ _).setCell _ _).setCell _ _).setCell _ _).setCell _ _).setCell _ _).setCell _ _).setCell _ _).setCell _ _) = w3 at K2 hb hl2 ⊢
  clear c0 c1 c2 c3 c4 c5 c6 c7 c8 f0 K hl'
  have hlen := Lib.hid hl2.len
  have hokl : SgOk k' t' f' h' ep' bo' sq' ac' l'.length := by rw [hlen.out]; exact hok'
  have SB := sbytes_any k' t' f' h' ep' bo' sq' ac' A' N' c' l' w3 hl2 hok'
  have hBl := Lib.hid (sgB_len k' t' f' h' ep' bo' sq' ac' l')
  have SF := fun (A : Option Addr) (N c : Nat) (w : World) h1 h2 => sparse_fore (A := A) (N := N) (c := c) (w := w) hokl h1 h2
  have ST := fun (j : Nat) (x : UInt8) => sp_turned (j := j) (c := x) hokl
  have hokh := Lib.hid hok'
  have hk1 : 1 ≤ k' := by unfold SgOk at hok'; omega
  unfold sgC at SB SF
  obtain ⟨B, hB⟩ : ∃ B, B = sgB k' t' f' h' ep' bo' sq' ac' l' := ⟨_, rfl⟩
  simp only [← hB] at SB SF ST hBl
  clear hB hok'
  have SBh := Lib.hid SB
  have SFh := Lib.hid SF
  have STh := Lib.hid ST
  clear SB SF ST
  obtain ⟨c0, c1, c2, c3, c4, c5, c6, c7, c8, f0⟩ := K2.nine
  go_wp2_with fail
  refine SBh.out.mono ?_
  rintro e w4 ⟨A3, N3, c3', rfl, hO3, hb4⟩
  have K := K2.kept hb4
  have hb := hb.next hb4
  have hl := hl2.below hb4
  clear c0 c1 c2 c3 c4 c5 c6 c7 c8 f0 hl2 SBh
  have hN3 : 21 ≤ N3 ∧ N3 ≤ 21 + 256 := by
    have h1 := hO3.len
    have h2 := hBl.out
    have h3 := hlen.out
    have h4 := hokh.out
    unfold SgOk at h4
    omega
  have hszb := hb4.size
  have hK3 := K2.lt
  obtain ⟨g3, cap3, hv3, hg3, hlt3, hcap3⟩ := own_form hO3 (by omega)
  injection hv3 with hA3 _ hc3
  subst hA3 hc3
  obtain ⟨j, hj⟩ : ∃ j : Nat, at' % (N3 : Int) = (j : Int) := ⟨(at' % (N3 : Int)).toNat, by have := Int.emod_nonneg at' (show (N3 : Int) ≠ 0 by omega); omega⟩
  have hjN : j < N3 := by have := Int.emod_lt_of_pos at' (show (0 : Int) < (N3 : Int) by omega); omega
  have BR := fun w => bring_any at' (N3 : Int) w (by omega) (by omega) ya.1 ya.2
  rw [hj] at BR
  have BRh := Lib.hid BR
  clear BR hj ya
  have hjB : j < B.length := by have := hO3.len; omega
  obtain ⟨x, hx⟩ : ∃ x, B[j]? = some x := ⟨B[j], List.getElem?_eq_getElem hjB⟩
  have hcell : w4.cell? ⟨g3, j, none⟩ = some (.int .u8 (x.toNat : Int)) := by
    rw [World.ownsRow.cellAt hO3 j (by omega), List.getElem?_map, hx]
    rfl
  have hfro : w4.frozen? ⟨g3, j, none⟩ = false := World.ownsRow.frozenAt hO3 j
  have hj0 : (0 : Int) ≤ (j : Int) := by omega
  have hj1 : (j : Int) < (N3 : Int) := by omega
  obtain ⟨y, hy⟩ : ∃ y : UInt8, y = x ^^^ d := ⟨_, rfl⟩
  have hx5 : bits BinOp.xor IntKind.u8 (x.toNat : Int) (d.toNat : Int) = (y.toNat : Int) := by rw [hy]; exact u8_xor_byte x d
  have HY := Lib.hid hy
  clear hy
  have hst := (World.ownsRow.stored hO3 j (.int .u8 (y.toNat : Int))).1
  have hgs := (World.ownsRow.stored hO3 j (.int .u8 (y.toNat : Int))).2
  have hO5 : OwnB (w4.setCell ⟨g3, j, none⟩ (.int .u8 (y.toNat : Int))) w3.heap.size (some ⟨g3, 0, none⟩) N3 c3' (B.set j y) := by
    unfold OwnB
    rw [List.map_set]
    exact hst
  have hgK : w.heap.size < g3 := by omega
  have hgs := hgs.size
  have KS := K.far (p := ⟨g3, j, none⟩) (by simp; omega) (.int .u8 (y.toNat : Int))
  have hbS := hb.setCell (p := ⟨g3, j, none⟩) (by simp; omega) (.int .u8 (y.toNat : Int))
  have hlS := hl.setCell (p := ⟨g3, j, none⟩) hg3 (.int .u8 (y.toNat : Int))
  obtain ⟨c0, c1, c2, c3, c4, c5, c6, c7, c8, f0⟩ := K.nine
  have hNZ : ((N3 : Int) == 0) = false := by simp; omega
  go_wp2_with (first | (go_at_call 20; refine (BRh.out _).mono ?_; rintro e w5 ⟨rfl, rfl⟩))
  generalize w4.setCell _ _ = w5 at KS hbS hlS hO5 hgs ⊢
  clear hst hcell hfro K hb hl hO3 hx5 c0 c1 c2 c3 c4 c5 c6 c7 c8 f0
  have hB5 : By w5 w5.heap.size (some ⟨g3, 0, none⟩) N3 (B.set j y) := hO5.by_
  have hl5 : By w5 w5.heap.size A' N' l' := hlS.more (by omega)
  clear hO5 hlS
  by_cases hd : d = 0
  · subst hd
    have e1 : B.set j y = B := by
      rw [HY.out]
      have : x ^^^ 0 = x := by simp
      rw [this]
      have h1 : j < B.length := hjB
      have h2 : B[j] = x := by
        have := List.getElem?_eq_getElem h1
        rw [hx] at this
        exact (Option.some.inj this).symm
      rw [← h2]
      exact List.set_getElem_self h1
    rw [e1] at hB5
    clear e1
    refine (SFh.out _ _ _ _ hB5 hcap3).mono ?_
    rintro e w6 ⟨A6, c6', rfl, hO6, hb6⟩
    have K := KS.kept hb6
    have hb := hbS.next hb6
    have hl := hl5.kept hb6
    have hx6 := hO6.by_
    clear hO6 hb6 KS hbS hl5 hB5
    have KX := Bk.new w6 34 #[.int .i64 k', .int .i64 t', .int .i64 f', .int .i64 h', .int .i64 ep', .int .i64 bo', .int .i64 sq', .int .i64 ac', .slice A6 l'.length c6']
    have K := K.alloc (.cells #[.int .i64 k', .int .i64 t', .int .i64 f', .int .i64 h', .int .i64 ep', .int .i64 bo', .int .i64 sq', .int .i64 ac', .slice A6 l'.length c6'] 34)
    have hb := hb.push (.cells #[.int .i64 k', .int .i64 t', .int .i64 f', .int .i64 h', .int .i64 ep', .int .i64 bo', .int .i64 sq', .int .i64 ac', .slice A6 l'.length c6'] 34)
    have hl := hl.boxed (.cells #[.int .i64 k', .int .i64 t', .int .i64 f', .int .i64 h', .int .i64 ep', .int .i64 bo', .int .i64 sq', .int .i64 ac', .slice A6 l'.length c6'] 34)
    have hx6 := hx6.boxed (.cells #[.int .i64 k', .int .i64 t', .int .i64 f', .int .i64 h', .int .i64 ep', .int .i64 bo', .int .i64 sq', .int .i64 ac', .slice A6 l'.length c6'] 34)
    obtain ⟨d0, d1, d2, d3, d4, d5, d6, d7, d8, e0⟩ := KX.nine
    obtain ⟨c0, c1, c2, c3, c4, c5, c6, c7, c8, f0⟩ := K.nine
    have SM := same_any k' t' f' h' ep' bo' sq' ac' A6 l'.length c6' l' k' t' f' h' ep' bo' sq' ac' A' N' c' l' _ hx6 hl
    rw [smB_self] at SM
    unfold sgC at SM
    have SMh := Lib.hid SM
    clear SM
    go_wp2_with fail
    refine SMh.out.mono ?_
    rintro e w7 ⟨rfl, hb7⟩
    have hb := hb.next hb7
    clear SMh c0 c1 c2 c3 c4 c5 c6 c7 c8 f0 d0 d1 d2 d3 d4 d5 d6 d7 d8 e0 KX K hx6 hb7
    go_wp2_with fail
    refine (works05 _).mono ?_
    rintro e w8 ⟨rfl, hb8⟩
    go_wp2_with fail
    go_ret
    exact ⟨rfl, hb.next hb8⟩
  · have hd0 : ((d.toNat : Int) == 0) = false := by
      simp only [beq_eq_false_iff_ne, ne_eq]
      intro h
      exact hd (UInt8.toNat_inj.1 (by simpa using h))
    have h30 : spE (B.set j y) = 30 := STh.out j y hjB (by rw [hx, HY.out]; intro e; exact xor_ne hd (Option.some.inj e))
    have SP := sparse_any _ _ c3' _ w5 hB5 hcap3
    have hno : ¬ spE (B.set j y) = 0 := by rw [h30]; decide
    simp only [spV_no hno, spL_no hno, h30] at SP
    unfold sgC at SP
    have SPh := Lib.hid SP
    clear SP hno h30 hB5 hd
    refine SPh.out.mono ?_
    rintro e w6 ⟨A6, N6, c6', rfl, hO6, hb6⟩
    have K := KS.kept hb6
    have hb := hbS.next hb6
    have hl := hl5.kept hb6
    have hx6 := hO6.by_
    clear hO6 hb6 KS hbS hl5 SPh
    have KX := Bk.new w6 34 #[.int .i64 0, .int .i64 0, .int .i64 0, .int .i64 0, .int .i64 0, .int .i64 0, .int .i64 0, .int .i64 0, .slice A6 N6 c6']
    have K := K.alloc (.cells #[.int .i64 0, .int .i64 0, .int .i64 0, .int .i64 0, .int .i64 0, .int .i64 0, .int .i64 0, .int .i64 0, .slice A6 N6 c6'] 34)
    have hb := hb.push (.cells #[.int .i64 0, .int .i64 0, .int .i64 0, .int .i64 0, .int .i64 0, .int .i64 0, .int .i64 0, .int .i64 0, .slice A6 N6 c6'] 34)
    have hl := hl.boxed (.cells #[.int .i64 0, .int .i64 0, .int .i64 0, .int .i64 0, .int .i64 0, .int .i64 0, .int .i64 0, .int .i64 0, .slice A6 N6 c6'] 34)
    have hx6 := hx6.boxed (.cells #[.int .i64 0, .int .i64 0, .int .i64 0, .int .i64 0, .int .i64 0, .int .i64 0, .int .i64 0, .int .i64 0, .slice A6 N6 c6'] 34)
    obtain ⟨d0, d1, d2, d3, d4, d5, d6, d7, d8, e0⟩ := KX.nine
    obtain ⟨c0, c1, c2, c3, c4, c5, c6, c7, c8, f0⟩ := K.nine
    have SM := same_any 0 0 0 0 0 0 0 0 A6 N6 c6' [] k' t' f' h' ep' bo' sq' ac' A' N' c' l' _ hx6 hl
    have hsm : smB 0 0 0 0 0 0 0 0 [] k' t' f' h' ep' bo' sq' ac' l' = false := by
      have h0 : ¬ (0 = k') := by omega
      simp [smB, h0]
    rw [hsm] at SM
    unfold sgC at SM
    have SMh := Lib.hid SM
    clear SM hsm
    go_wp2_with fail
    refine SMh.out.mono ?_
    rintro e w7 ⟨rfl, hb7⟩
    have hb := hb.next hb7
    clear SMh c0 c1 c2 c3 c4 c5 c6 c7 c8 f0 d0 d1 d2 d3 d4 d5 d6 d7 d8 e0 KX K hx6 hb7
    go_wp2_with fail
    refine (works05 _).mono ?_
    rintro e w8 ⟨rfl, hb8⟩
    go_wp2_with fail
    go_ret
    exact ⟨rfl, hb.next hb8⟩
end Go.Proofs.Ytfnnjaljnfphlaa
