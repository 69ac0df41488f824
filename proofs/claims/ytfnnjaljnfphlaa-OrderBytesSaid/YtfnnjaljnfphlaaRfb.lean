/- The reference of chapter 6: the bytes of a rule. -/
import Derived.Test.YtfnnjaljnfphlaaRfc
import Derived.Test.YtfnnjaljnfphlaaRul
namespace Go.Proofs.Ytfnnjaljnfphlaa
open Go.RowKit
set_option maxRecDepth 100000
set_option maxHeartbeats 8000000
set_option linter.unusedSimpArgs false
set_option linter.unusedVariables false

theorem In.two (w : World) (x y : Int) : In (w.alloc (.cells #[.int .i64 x, .int .i64 y] 3)) (w.alloc (.cells #[.int .i64 x, .int .i64 y] 3)).heap.size (some ⟨w.heap.size, 0, none⟩) 2 [x, y] :=
  (Bk.new w 3 #[.int .i64 x, .int .i64 y]).rd (n := 2) (size := 1) rfl
theorem In.three (w : World) (x y z : Int) : In (w.alloc (.cells #[.int .i64 x, .int .i64 y, .int .i64 z] 3)) (w.alloc (.cells #[.int .i64 x, .int .i64 y, .int .i64 z] 3)).heap.size (some ⟨w.heap.size, 0, none⟩) 3 [x, y, z] :=
  (Bk.new w 3 #[.int .i64 x, .int .i64 y, .int .i64 z]).rd (n := 3) (size := 1) rfl
/-- The ranges of a rule that may be. -/
theorem ruB_rng {r : Ru} (h : ruB r = true) : (r.k = 2 ∨ r.k = 1) ∧ (0 ≤ r.pr ∧ r.pr ≤ 65535) ∧ (0 ≤ r.to ∧ r.to ≤ 255) ∧ (0 ≤ r.po ∧ r.po ≤ 255) ∧ (0 ≤ r.m.ve ∧ r.m.ve ≤ 200) ∧ (-1 ≤ r.m.mp ∧ r.m.mp ≤ 4) ∧ r.os.length ≤ 8 ∧ ∀ o ∈ r.os, outB4 o = true := by
  have h8 := ruB_len h
  obtain ⟨k, pr, to_, po, m, os⟩ := r
  by_cases hk : k = 2
  · subst hk
    simp only [ruB, if_true, Bool.and_eq_true, inB_iff, beq_iff_eq] at h
    obtain ⟨⟨⟨⟨h1, h2⟩, h3⟩, h4⟩, h5⟩ := h
    have h6 := List.eq_nil_of_length_eq_zero h5
    have h7 := mkZ_eq h4
    subst h6 h3 h7
    simp only [mk0]
    refine ⟨by first | trivial | omega, by first | trivial | omega, by first | trivial | omega, by first | trivial | omega, by first | trivial | omega, by first | trivial | omega, by simp, fun x hx => by cases hx⟩
  · simp only [ruB, hk, if_false, Bool.and_eq_true, inB_iff, beq_iff_eq, decide_eq_true_eq, List.all_eq_true] at h
    obtain ⟨⟨⟨⟨⟨⟨h1, h2⟩, h3⟩, h4⟩, h5⟩, h6⟩, h7⟩ := h
    subst h1 h5 h6
    simp only [mkB, Bool.and_eq_true, inB_iff] at h7
    obtain ⟨⟨⟨⟨g1, g2⟩, _⟩, _⟩, _⟩ := h7
    simp only
    exact ⟨.inr trivial, h4, by omega, by omega, g1, g2, h2, h3⟩
theorem rputRule_any (r : Ru) (A : Option Addr) (L c : Nat) (Ab : Option Addr) (Nb cb : Nat) (l : List UInt8) (w : World) (hB : ruB r = true) (hl : Ou w w.heap.size A L r.os) (hx : By w w.heap.size Ab Nb l) (hNb : Nb ≤ 100) :
    Calls Try.prog 97 #[.slice Ab Nb cb, .agg (ruC r A L c)] w fun e w' => ∃ A' N' c', e = .returned (.slice A' N' c') ∧ By w' w'.heap.size A' N' (l ++ ruBy r) ∧ Below w.heap.size w w' := by
  obtain ⟨hk, hpr, hto, hpo, hve, hmp, h8, hos⟩ := ruB_rng hB
  have hL := hl.len
  have K := Bk.new w 51 (ruC r A L c)
  have hb := (Below.refl w.heap.size w).push (.cells (ruC r A L c) 51)
  have hlw := hl.boxed (.cells (ruC r A L c) 51)
  have hx := hx.boxed (.cells (ruC r A L c) 51)
  unfold ruC at K hb hlw hx ⊢
  have hlo := Lib.hid hl
  clear hl hB
  go_enter Try.func97, Try.ntmps97
  go_upto_region 1 with fail
  generalize w.alloc _ = W at K hb hlw hx ⊢
  obtain ⟨c0, c1, c2, c3, c4, c5, c6, c7, c8, c9, c10, c11, c12, f0⟩ := K.r13
  have hp := Lib.hid (rput1 Ab _ Nb cb 1 1 l (r.k) _ (hx.boxed (.cells #[.int .i64 (r.k)] 3)) (In.box W (r.k)) (by omega) (by omega) (by omega))
  go_upto_region 2 with (go_at_call 60; refine hp.out.mono ?_; rintro e w1 ⟨A1, N1, cc1, rfl, hO1, hb1⟩)
  have hNn : N1 ≤ Nb + 1 := by have h1 := hO1.len; have h2 := hx.len; simp [be_len] at h1; (try simp [be_len] at h2); omega
  clear hp
  replace hb := (hb.push (.cells #[.int .i64 (r.k)] 3)).next hb1
  replace hlw := (hlw.boxed (.cells #[.int .i64 (r.k)] 3)).kept hb1
  replace hx := hO1.by_
  replace K := (K.alloc (.cells #[.int .i64 (r.k)] 3)).kept hb1
  have hz1 := hb1.size
  clear hb1
  have hM1 : N1 ≤ 101 := by omega
  clear hNn hO1
  clear c0 c1 c2 c3 c4 c5 c6 c7 c8 c9 c10 c11 c12 f0
  obtain ⟨c0, c1, c2, c3, c4, c5, c6, c7, c8, c9, c10, c11, c12, f0⟩ := K.r13
  have hp := Lib.hid (rput1 A1 _ N1 cc1 1 2 (l ++ be 1 (r.k).toNat) (r.pr) _ (hx.boxed (.cells #[.int .i64 (r.pr)] 3)) (In.box w1 (r.pr)) (by omega) (by omega) (by omega))
  go_upto_region 3 with (go_at_call 60; refine hp.out.mono ?_; rintro e w2 ⟨A2, N2, cc2, rfl, hO2, hb2⟩)
  have hNn : N2 ≤ N1 + 2 := by have h1 := hO2.len; have h2 := hx.len; simp [be_len] at h1; (try simp [be_len] at h2); omega
  clear hp
  replace hb := (hb.push (.cells #[.int .i64 (r.pr)] 3)).next hb2
  replace hlw := (hlw.boxed (.cells #[.int .i64 (r.pr)] 3)).kept hb2
  replace hx := hO2.by_
  replace K := (K.alloc (.cells #[.int .i64 (r.pr)] 3)).kept hb2
  have hz2 := hb2.size
  clear hb2
  have hM2 : N2 ≤ 103 := by omega
  clear hNn hO2
  clear c0 c1 c2 c3 c4 c5 c6 c7 c8 c9 c10 c11 c12 f0
  obtain ⟨c0, c1, c2, c3, c4, c5, c6, c7, c8, c9, c10, c11, c12, f0⟩ := K.r13
  have hp := Lib.hid (rputs A2 _ N2 cc2 2 2 1 ((l ++ be 1 (r.k).toNat) ++ be 2 (r.pr).toNat) [r.to, r.po] _ (hx.boxed (.cells #[.int .i64 (r.to), .int .i64 (r.po)] 3)) (In.two w2 (r.to) (r.po)) (by omega) (by omega) (by omega) (by simp; omega))
  go_upto_region 4 with (go_at_call 60; refine hp.out.mono ?_; rintro e w3 ⟨A3, N3, cc3, rfl, hO3, hb3⟩)
  have hNn : N3 ≤ N2 + 2 := by have h1 := hO3.len; have h2 := hx.len; simp [be_len] at h1; (try simp [be_len] at h2); omega
  clear hp
  replace hb := (hb.push (.cells #[.int .i64 (r.to), .int .i64 (r.po)] 3)).next hb3
  replace hlw := (hlw.boxed (.cells #[.int .i64 (r.to), .int .i64 (r.po)] 3)).kept hb3
  replace hx := hO3.by_
  replace K := (K.alloc (.cells #[.int .i64 (r.to), .int .i64 (r.po)] 3)).kept hb3
  have hz3 := hb3.size
  clear hb3
  have hM3 : N3 ≤ 105 := by omega
  clear hNn hO3
  clear c0 c1 c2 c3 c4 c5 c6 c7 c8 c9 c10 c11 c12 f0
  obtain ⟨c0, c1, c2, c3, c4, c5, c6, c7, c8, c9, c10, c11, c12, f0⟩ := K.r13
  by_cases hk2 : r.k = 2
  · have e1 : (r.k == 2) = true := by simpa using hk2
    go_wp2_with fail
    go_ret
    refine ⟨_, _, _, rfl, ?_, hb⟩
    have he : l ++ ruBy r = (((l ++ be 1 (r.k).toNat) ++ be 2 (r.pr).toNat) ++ [r.to, r.po].flatMap fun x => be 1 x.toNat) := by simp [ruBy, hk2]
    rw [he]
    exact hx
  · have e1 : (r.k == 2) = false := by simpa using hk2
    have hk1 : r.k = 1 := by omega
    have hK5 := Bk.new w3 48 (mkC r.m)
    unfold mkC at hK5
    have hP : (l ++ (be 1 r.k.toNat ++ (be 2 r.pr.toNat ++ (be 1 r.to.toNat ++ be 1 r.po.toNat)))) = (((l ++ be 1 (r.k).toNat) ++ be 2 (r.pr).toNat) ++ [r.to, r.po].flatMap fun x => be 1 x.toNat) := by simp
    go_upto_region 7 with fail
    replace K := K.alloc (.cells #[.int .i64 r.m.ve, .int .i64 r.m.mp, .int .u8 (r.m.b0.toNat : Int), .int .u8 (r.m.b1.toNat : Int), .int .u8 (r.m.b2.toNat : Int), .int .u8 (r.m.i0.toNat : Int), .int .u8 (r.m.i1.toNat : Int), .int .u8 (r.m.i2.toNat : Int)] 48)
    replace hb := hb.push (.cells #[.int .i64 r.m.ve, .int .i64 r.m.mp, .int .u8 (r.m.b0.toNat : Int), .int .u8 (r.m.b1.toNat : Int), .int .u8 (r.m.b2.toNat : Int), .int .u8 (r.m.i0.toNat : Int), .int .u8 (r.m.i1.toNat : Int), .int .u8 (r.m.i2.toNat : Int)] 48)
    replace hlw := hlw.boxed (.cells #[.int .i64 r.m.ve, .int .i64 r.m.mp, .int .u8 (r.m.b0.toNat : Int), .int .u8 (r.m.b1.toNat : Int), .int .u8 (r.m.b2.toNat : Int), .int .u8 (r.m.i0.toNat : Int), .int .u8 (r.m.i1.toNat : Int), .int .u8 (r.m.i2.toNat : Int)] 48)
    replace hx := hx.boxed (.cells #[.int .i64 r.m.ve, .int .i64 r.m.mp, .int .u8 (r.m.b0.toNat : Int), .int .u8 (r.m.b1.toNat : Int), .int .u8 (r.m.b2.toNat : Int), .int .u8 (r.m.i0.toNat : Int), .int .u8 (r.m.i1.toNat : Int), .int .u8 (r.m.i2.toNat : Int)] 48)
    clear c0 c1 c2 c3 c4 c5 c6 c7 c8 c9 c10 c11 c12 f0
    generalize w3.heap.size = g5 at hK5 ⊢
    generalize w3.alloc _ = w3 at K hb hlw hx hK5 ⊢
    have hn3 := K.lt
    rw [← hP] at hx
    generalize hl3 : l ++ (be 1 r.k.toNat ++ (be 2 r.pr.toNat ++ (be 1 r.to.toNat ++ be 1 r.po.toNat))) = l3 at hx
    clear hP
    obtain ⟨d0, d1, d2, d3, d4, d5, d6, d7, f5⟩ := hK5.m8
    have hw1 : IntKind.i64.wrap (r.m.mp + 1) = r.m.mp + 1 := IntWalk.i64_in _ (by omega)
    have hp := Lib.hid (rputs A3 _ N3 cc3 2 2 1 l3 [r.m.ve, r.m.mp + 1] _ (hx.boxed (.cells #[.int .i64 (r.m.ve), .int .i64 (r.m.mp + 1)] 3)) (In.two w3 (r.m.ve) (r.m.mp + 1)) (by omega) (by omega) (by omega) (by simp; omega))
    go_upto_region 8 with (go_at_call 60; refine hp.out.mono ?_; rintro e w4 ⟨A4, N4, cc4, rfl, hO4, hb4⟩)
    have hNn : N4 ≤ N3 + 2 := by have h1 := hO4.len; have h2 := hx.len; simp [be_len] at h1; (try simp [be_len] at h2); omega
    clear hp
    replace hb := (hb.push (.cells #[.int .i64 (r.m.ve), .int .i64 (r.m.mp + 1)] 3)).next hb4
    replace hlw := (hlw.boxed (.cells #[.int .i64 (r.m.ve), .int .i64 (r.m.mp + 1)] 3)).kept hb4
    replace hx := hO4.by_
    replace K := (K.alloc (.cells #[.int .i64 (r.m.ve), .int .i64 (r.m.mp + 1)] 3)).kept hb4
    replace hK5 := (hK5.alloc (.cells #[.int .i64 (r.m.ve), .int .i64 (r.m.mp + 1)] 3)).kept hb4
    have hz4 := hb4.size
    clear hb4
    have hM4 : N4 ≤ 107 := by omega
    clear hNn d0 d1 d2 d3 d4 d5 d6 d7 f5 hw1
    obtain ⟨d0, d1, d2, d3, d4, d5, d6, d7, f5⟩ := hK5.m8
    obtain ⟨i0, hi0, hz0, hz1, hz2⟩ := info_parts info5
    have hOa := World.ownsRow.alloc hO4 (.cells #[.int .u8 (r.m.b0.toNat : Int), .int .u8 (r.m.b1.toNat : Int), .int .u8 (r.m.b2.toNat : Int), .int .u8 (r.m.i0.toNat : Int), .int .u8 (r.m.i1.toNat : Int), .int .u8 (r.m.i2.toNat : Int)] 5)
    have hnw : Rd (w4.alloc (.cells #[.int .u8 (r.m.b0.toNat : Int), .int .u8 (r.m.b1.toNat : Int), .int .u8 (r.m.b2.toNat : Int), .int .u8 (r.m.i0.toNat : Int), .int .u8 (r.m.i1.toNat : Int), .int .u8 (r.m.i2.toNat : Int)] 5)) (w4.heap.size + 1) 1 (some ⟨w4.heap.size, 0, none⟩) 6 [.int .u8 (r.m.b0.toNat : Int), .int .u8 (r.m.b1.toNat : Int), .int .u8 (r.m.b2.toNat : Int), .int .u8 (r.m.i0.toNat : Int), .int .u8 (r.m.i1.toNat : Int), .int .u8 (r.m.i2.toNat : Int)] := by simpa using (Bk.new w4 5 #[.int .u8 (r.m.b0.toNat : Int), .int .u8 (r.m.b1.toNat : Int), .int .u8 (r.m.b2.toNat : Int), .int .u8 (r.m.i0.toNat : Int), .int .u8 (r.m.i1.toNat : Int), .int .u8 (r.m.i2.toNat : Int)]).rd (n := 6) (size := 1) rfl
    have hw34 : (w3.alloc (.cells #[.int .i64 (r.m.ve), .int .i64 (r.m.mp + 1)] 3)).heap.size ≤ (w4.alloc (.cells #[.int .u8 (r.m.b0.toNat : Int), .int .u8 (r.m.b1.toNat : Int), .int .u8 (r.m.b2.toNat : Int), .int .u8 (r.m.i0.toNat : Int), .int .u8 (r.m.i1.toNat : Int), .int .u8 (r.m.i2.toNat : Int)] 5)).heap.size := by
      have := hz4
      simp at this ⊢
      omega
    go_upto_region 9 with (at_builtin; refine wpList_append_rd _ rfl _ _ _ rfl (w3.alloc (.cells #[.int .i64 (r.m.ve), .int .i64 (r.m.mp + 1)] 3)).heap.size 5 i0 _ 1 1 Try.underlying32 hi0 hz0 hz1 hz2 rfl (by omega) _ _ _ rfl hOa (w4.heap.size + 1) (some ⟨w4.heap.size, 0, none⟩) 6 6 [.int .u8 (r.m.b0.toNat : Int), .int .u8 (r.m.b1.toNat : Int), .int .u8 (r.m.b2.toNat : Int), .int .u8 (r.m.i0.toNat : Int), .int .u8 (r.m.i1.toNat : Int), .int .u8 (r.m.i2.toNat : Int)] rfl hnw (by simp [Value.oneCell']) (by unfold maxLen; omega) (by omega) hw34 ?_; intro v5 wv hown5 hg5 hat5)
    rw [show ((l3 ++ [r.m.ve, r.m.mp + 1].flatMap fun x => be 1 x.toNat).map byV ++ [.int .u8 (r.m.b0.toNat : Int), .int .u8 (r.m.b1.toNat : Int), .int .u8 (r.m.b2.toNat : Int), .int .u8 (r.m.i0.toNat : Int), .int .u8 (r.m.i1.toNat : Int), .int .u8 (r.m.i2.toNat : Int)] : List Value) = ((l3 ++ [r.m.ve, r.m.mp + 1].flatMap fun x => be 1 x.toNat) ++ [r.m.b0, r.m.b1, r.m.b2, r.m.i0, r.m.i1, r.m.i2]).map byV by simp [byV]] at hown5
    obtain ⟨Av, cv, rfl, hOv⟩ := own_of hown5
    replace K := (K.alloc (.cells #[.int .u8 (r.m.b0.toNat : Int), .int .u8 (r.m.b1.toNat : Int), .int .u8 (r.m.b2.toNat : Int), .int .u8 (r.m.i0.toNat : Int), .int .u8 (r.m.i1.toNat : Int), .int .u8 (r.m.i2.toNat : Int)] 5)).grown hg5 (own_far hOa (by simp; omega))
    have hwn := hb.size
    replace hb := (hb.push (.cells #[.int .u8 (r.m.b0.toNat : Int), .int .u8 (r.m.b1.toNat : Int), .int .u8 (r.m.b2.toNat : Int), .int .u8 (r.m.i0.toNat : Int), .int .u8 (r.m.i1.toNat : Int), .int .u8 (r.m.i2.toNat : Int)] 5)).grown hg5 (by simp; omega) (fun j hj => by have := (hOa.lt j hj).1; simp at this; omega)
    replace hx := hOv.by_
    replace hlw := (hlo.out.below hb).more hb.size
    clear hOv hat5 hg5 hOa hnw hw34 hz4 hO4 d0 d1 d2 d3 d4 d5 d6 d7 f5 hK5
    have hP : l3 ++ mkBy r.m = (l3 ++ [r.m.ve, r.m.mp + 1].flatMap fun x => be 1 x.toNat) ++ [r.m.b0, r.m.b1, r.m.b2, r.m.i0, r.m.i1, r.m.i2] := by simp [mkBy]
    rw [← hP] at hx
    generalize hl5 : l3 ++ mkBy r.m = l5 at hx
    have hM5 : N4 + 6 ≤ 113 := by omega
    have c12 := K.cell 12
    clear hP hown5
    have hp := Lib.hid (rput1 Av _ (N4 + 6) cv 1 1 l5 ((L : Int)) _ (hx.boxed (.cells #[.int .i64 ((L : Int))] 3)) (In.box wv ((L : Int))) (by omega) (by omega) (by omega))
    go_upto_region 10 with (go_at_call 60; refine hp.out.mono ?_; rintro e w5 ⟨A5, N5, cc5, rfl, hO5, hb5⟩)
    have hNn : N5 ≤ (N4 + 6) + 1 := by have h1 := hO5.len; have h2 := hx.len; simp [be_len] at h1; (try simp [be_len] at h2); omega
    clear hp
    replace hb := (hb.push (.cells #[.int .i64 ((L : Int))] 3)).next hb5
    replace hlw := (hlw.boxed (.cells #[.int .i64 ((L : Int))] 3)).kept hb5
    replace hx := hO5.by_
    replace K := (K.alloc (.cells #[.int .i64 ((L : Int))] 3)).kept hb5
    have hz5 := hb5.size
    clear hb5
    clear c12 hO5
    have hM6 : N5 ≤ 114 := by omega
    rw [Int.toNat_natCast] at hx
    generalize hl6 : l5 ++ be 1 L = l6 at hx
    clear hNn
    go_wp2_with fail
    go_loopw [6, 0] (fun i b wr => ∃ (k : Nat) (A' : Option Addr) (N' c' : Nat), k ≤ L ∧ i = .int .i64 k ∧ b = .slice A' N' c' ∧ By wr wr.heap.size A' N' (l6 ++ (r.os.take k).flatMap outBy) ∧ Bk wr w.heap.size 51 #[.int .i64 r.k, .int .i64 r.pr, .int .i64 r.to, .int .i64 r.po, .int .i64 r.m.ve, .int .i64 r.m.mp, .int .u8 (r.m.b0.toNat : Int), .int .u8 (r.m.b1.toNat : Int), .int .u8 (r.m.b2.toNat : Int), .int .u8 (r.m.i0.toNat : Int), .int .u8 (r.m.i1.toNat : Int), .int .u8 (r.m.i2.toNat : Int), .slice A L c] ∧ Below w.heap.size w wr ∧ N' ≤ 114 + 7 * k) (fun i _ _ => L - (intOf i).toNat)
    case atStart => exact ⟨0, A5, N5, cc5, by omega, rfl, rfl, by simpa using hx, K, hb, by omega⟩
    case round =>
      clear hx K hb hlw
      obtain ⟨k, A', N', c', hkL, rfl, rfl, hx, K, hb, hM⟩ := hrel
      obtain ⟨wq, hwq⟩ : ∃ q, q = wr := ⟨_, rfl⟩
      subst hwq
      have hlw := (hlo.out.below hb).more hb.size
      have c12 : wq.cell? ⟨w.heap.size, 12, none⟩ = some (.slice A L c) := K.cell 12
      by_cases hlt : k < L
      · obtain ⟨b, off, p, x, y, z, rfl, hbb, h0, h1, h2, h3, hxk⟩ := hlw.at_ hlt
        have hkk2 : (k : Int) < (L : Int) := by omega
        have hkk3 : (0 : Int) ≤ (k : Int) := by omega
        have hoB := hos _ (List.mem_of_getElem? hxk.out)
        simp only [outB4, Bool.and_eq_true, inB_iff] at hoB
        obtain ⟨⟨⟨hp, hxx⟩, hyy⟩, hzz⟩ := hoB
        have hnx := take_next hxk.out
        have hK5 := Bk.new wq 65 #[.int .i64 p, .int .i64 x, .int .i64 y, .int .i64 z]
        go_upto_region 14 with fail
        replace K := K.alloc (.cells #[.int .i64 p, .int .i64 x, .int .i64 y, .int .i64 z] 65)
        replace hb := hb.push (.cells #[.int .i64 p, .int .i64 x, .int .i64 y, .int .i64 z] 65)
        replace hlw := hlw.boxed (.cells #[.int .i64 p, .int .i64 x, .int .i64 y, .int .i64 z] 65)
        replace hx := hx.boxed (.cells #[.int .i64 p, .int .i64 x, .int .i64 y, .int .i64 z] 65)
        clear h0 h1 h2 h3 c12 hxk
        generalize wq.heap.size = g5 at hK5 ⊢
        generalize wq.alloc _ = wq at K hb hlw hx hK5 ⊢
        generalize hl7 : l6 ++ (r.os.take k).flatMap outBy = l7 at hx
        obtain ⟨d0, d1, d2, d3, f5⟩ := hK5.four
        have hp := Lib.hid (rput1 A' _ N' c' 1 1 l7 (p) _ (hx.boxed (.cells #[.int .i64 (p)] 3)) (In.box wq (p)) (by omega) (by omega) (by omega))
        go_upto_region 15 with (go_at_call 60; refine hp.out.mono ?_; rintro e w6 ⟨A6, N6, cc6, rfl, hO6, hb6⟩)
        have hNn : N6 ≤ N' + 1 := by have h1 := hO6.len; have h2 := hx.len; simp [be_len] at h1; (try simp [be_len] at h2); omega
        clear hp
        replace hb := (hb.push (.cells #[.int .i64 (p)] 3)).next hb6
        replace hlw := (hlw.boxed (.cells #[.int .i64 (p)] 3)).kept hb6
        replace hx := hO6.by_
        replace K := (K.alloc (.cells #[.int .i64 (p)] 3)).kept hb6
        replace hK5 := (hK5.alloc (.cells #[.int .i64 (p)] 3)).kept hb6
        have hz6 := hb6.size
        clear hb6
        clear d0 d1 d2 d3 f5
        have hM7 : N6 ≤ N' + 1 := hNn
        clear hNn hO6
        obtain ⟨d0, d1, d2, d3, f5⟩ := hK5.four
        have hw1 : IntKind.i64.wrap (x + 1) = x + 1 := IntWalk.i64_in _ (by omega)
        have hw2 : IntKind.i64.wrap (y + 1) = y + 1 := IntWalk.i64_in _ (by omega)
        have hw3 : IntKind.i64.wrap (z + 1) = z + 1 := IntWalk.i64_in _ (by omega)
        have hp := Lib.hid (rputs A6 _ N6 cc6 3 3 2 (l7 ++ be 1 p.toNat) [x + 1, y + 1, z + 1] _ (hx.boxed (.cells #[.int .i64 (x + 1), .int .i64 (y + 1), .int .i64 (z + 1)] 3)) (In.three w6 (x + 1) (y + 1) (z + 1)) (by omega) (by omega) (by omega) (by simp; omega))
        go_wp2_with (go_at_call 60; refine hp.out.mono ?_; rintro e w7 ⟨A7, N7, cc7, rfl, hO7, hb7⟩)
        have hNn : N7 ≤ N6 + 6 := by have h1 := hO7.len; have h2 := hx.len; simp [be_len] at h1; (try simp [be_len] at h2); omega
        go_roundw
        case rel =>
          refine ⟨k + 1, A7, N7, cc7, by omega, by go_num, rfl, ?_, (K.alloc (.cells #[.int .i64 (x + 1), .int .i64 (y + 1), .int .i64 (z + 1)] 3)).kept hb7, (hb.push (.cells #[.int .i64 (x + 1), .int .i64 (y + 1), .int .i64 (z + 1)] 3)).next hb7, by omega⟩
          have := hO7.by_
          rw [hnx, List.flatMap_append, ← List.append_assoc, hl7]
          simpa [outBy] using this
        case measure => simp [intOf]; omega
      · obtain rfl : k = L := by omega
        go_wp2_with fail
        go_ret
        refine ⟨_, _, _, rfl, ?_, hb⟩
        rw [List.take_of_length_le (Nat.le_of_eq hL)] at hx
        have he : l ++ ruBy r = l6 ++ r.os.flatMap outBy := by
          rw [← hl6, ← hl5, ← hl3]
          simp [ruBy, hk1, hL]
        rw [he]
        exact hx
end Go.Proofs.Ytfnnjaljnfphlaa
