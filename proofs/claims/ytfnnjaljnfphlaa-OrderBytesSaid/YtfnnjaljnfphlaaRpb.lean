/- Probes: the reference's Bytes and Parse; parse of the bytes is the probe. -/
import Derived.Test.YtfnnjaljnfphlaaL04a
import Derived.Test.YtfnnjaljnfphlaaR02
namespace Go.Proofs.Ytfnnjaljnfphlaa
open Go.RowKit
set_option maxRecDepth 100000
set_option maxHeartbeats 6000000
set_option linter.unusedSimpArgs false
set_option linter.unusedVariables false

theorem pp_fore {f fp t tp n : Int} (hok : PrOk f fp t tp n) : ppE (prB f fp t tp n) = 0 ∧ ppQ (prB f fp t tp n) = (f.toNat, fp.toNat, t.toNat, tp.toNat, n.toNat) := by
  have hok0 := hok
  unfold PrOk at hok
  obtain ⟨body, hbody⟩ : ∃ body, body = be 1 f.toNat ++ (be 1 fp.toNat ++ (be 1 t.toNat ++ (be 1 tp.toNat ++ (be 2 n.toNat ++ [])))) := ⟨_, rfl⟩
  have hs : prB f fp t tp n = sealB 2 body := by rw [prB, hbody]; simp
  have hbl : body.length ≤ 509 := by rw [hbody]; simp [be_len]
  have ho : openB (prB f fp t tp n) = (((2 : Nat) : Int), body, 0) := by rw [hs]; exact open_fore (by omega) hbl
  have h5 : rd5 (body, 0) = ((f.toNat, fp.toNat, t.toNat, tp.toNat, n.toNat), ([], 0)) := by
    unfold rd5
    rw [hbody]
    rw [rn_fore (m := 1) (x := f.toNat) (by omega)]
    simp only
    rw [rn_fore (m := 1) (x := fp.toNat) (by omega)]
    simp only
    rw [rn_fore (m := 1) (x := t.toNat) (by omega)]
    simp only
    rw [rn_fore (m := 1) (x := tp.toNat) (by omega)]
    simp only
    rw [rn_fore (m := 2) (x := n.toNat) (by omega)]
  have hQ : ppQ (prB f fp t tp n) = (f.toNat, fp.toNat, t.toNat, tp.toNat, n.toNat) := by unfold ppQ; rw [ho]; simp only; rw [h5]
  refine ⟨?_, hQ⟩
  unfold ppE
  rw [ho]
  simp only
  rw [if_neg (by simp), h5]
  simp only
  rw [if_pos]
  refine ⟨rfl, by simp [endE], ?_⟩
  rw [show ((f.toNat : Nat) : Int) = f by omega, show ((fp.toNat : Nat) : Int) = fp by omega, show ((t.toNat : Nat) : Int) = t by omega, show ((tp.toNat : Nat) : Int) = tp by omega, show ((n.toNat : Nat) : Int) = n by omega]
  exact hok0
theorem pparse_fore {f fp t tp n : Int} {A : Option Addr} {N c : Nat} {w : World} (hok : PrOk f fp t tp n) (hl : By w w.heap.size A N (prB f fp t tp n)) (hc : N ≤ c) :
    Calls Try.prog 33 #[.slice A N c] w fun e w' => e = .returned (.tuple #[.agg #[.int .i64 f, .int .i64 fp, .int .i64 t, .int .i64 tp, .int .i64 n], .int .i64 0]) ∧ Below w.heap.size w w' := by
  refine (pparse_any A N c _ w hl hc).mono ?_
  rintro e w' ⟨rfl, hb⟩
  obtain ⟨h0, hq⟩ := pp_fore hok
  have hok2 := hok
  unfold PrOk at hok2
  refine ⟨?_, hb⟩
  simp only [ppV_ok h0, hq, h0]
  rw [show ((f.toNat : Nat) : Int) = f by omega, show ((fp.toNat : Nat) : Int) = fp by omega, show ((t.toNat : Nat) : Int) = t by omega, show ((tp.toNat : Nat) : Int) = tp by omega, show ((n.toNat : Nat) : Int) = n by omega]

theorem rpbytes_any (f fp t tp n : Int) (w : World) (hok : PrOk f fp t tp n) :
    Calls Try.prog 81 #[.agg #[.int .i64 f, .int .i64 fp, .int .i64 t, .int .i64 tp, .int .i64 n]] w fun e w' => ∃ A N c, e = .returned (.tuple #[.slice A N c, .int .i64 0]) ∧ OwnB w' w.heap.size A N c (prB f fp t tp n) ∧ Below w.heap.size w w' := by
  have h1 : ∀ x ∈ [f, fp, t, tp], 0 ≤ x ∧ x < (256 ^ 1 : Nat) := by unfold PrOk at hok; simp; omega
  have h2 : ∀ x ∈ [n], 0 ≤ x ∧ x < (256 ^ 2 : Nat) := by unfold PrOk at hok; simp; omega
  have hpe := prE_ok hok
  have H1 := Lib.hid h1
  have H2 := Lib.hid h2
  have H0 := Lib.hid hpe
  clear h1 h2 hok hpe
  have K := Bk.new w 23 #[.int .i64 f, .int .i64 fp, .int .i64 t, .int .i64 tp, .int .i64 n]
  have hb := (Below.refl w.heap.size w).push (.cells #[.int .i64 f, .int .i64 fp, .int .i64 t, .int .i64 tp, .int .i64 n] 23)
  go_enter Try.func81, Try.ntmps81
  go_upto_region 1 with fail
  generalize w.alloc _ = w1 at K hb ⊢
  obtain ⟨c0, c1, c2, c3, c4, f0⟩ := K.five
  go_wp2_with fail
  refine (rpcheck_any _ _ _ _ _ _).mono ?_
  rintro e w2 ⟨rfl, hb2⟩
  simp only [H0.out]
  skip
  have K := K.kept hb2
  have hb := hb.next hb2
  clear c0 c1 c2 c3 c4 f0 hb2
  obtain ⟨c0, c1, c2, c3, c4, f0⟩ := K.five
  have K := K.alloc (.cells #[.int .i64 f, .int .i64 fp, .int .i64 t, .int .i64 tp] 3)
  have hb := hb.push (.cells #[.int .i64 f, .int .i64 fp, .int .i64 t, .int .i64 tp] 3)
  have I1 : In (w2.alloc (.cells #[.int .i64 f, .int .i64 fp, .int .i64 t, .int .i64 tp] 3)) (w2.alloc (.cells #[.int .i64 f, .int .i64 fp, .int .i64 t, .int .i64 tp] 3)).heap.size (some ⟨w2.heap.size, 0, none⟩) 4 [f, fp, t, tp] := (Bk.new w2 3 #[.int .i64 f, .int .i64 fp, .int .i64 t, .int .i64 tp]).rd (n := 4) (size := 1) rfl
  go_wp2_with fail
  refine (rputs none (some ⟨w2.heap.size, 0, none⟩) 0 0 4 4 1 [] [f, fp, t, tp] _ By.empty I1 (by omega) (by omega) (by omega) H1.out).mono ?_
  rintro e w3 ⟨A3, N3, c3', rfl, hO3, hb3⟩
  have hN3 := Lib.hid (show N3 = 4 from by have := hO3.len; simpa [be_len] using this.symm)
  have K := K.kept hb3
  have hb := hb.next hb3
  have hO := hO3.by_
  clear c0 c1 c2 c3 c4 f0 I1 hO3 hb3
  obtain ⟨c0, c1, c2, c3, c4, f0⟩ := K.five
  have hb := hb.push (.cells #[.int .i64 n] 3)
  have hO := hO.boxed (.cells #[.int .i64 n] 3)
  have I1 := In.box w3 n
  go_wp2_with fail
  refine (rputs A3 (some ⟨w3.heap.size, 0, none⟩) N3 _ 1 1 2 _ [n] _ hO I1 (by omega) (by have := hN3.out; omega) (by omega) H2.out).mono ?_
  rintro e w4 ⟨A4, N4, c4', rfl, hO4, hb4⟩
  have hN4 := Lib.hid (show N4 = 6 from by have := hO4.len; simpa [be_len] using this.symm)
  have hb := hb.next hb4
  have hO := hO4.by_
  clear c0 c1 c2 c3 c4 f0 I1 hO4 hb4
  go_wp2_with fail
  refine (rseal_any A4 N4 _ 2 _ _ hO (by have := hN4.out; omega) (by omega)).mono ?_
  rintro e w7 ⟨A7, N7, c7', rfl, hO7, hb7⟩
  go_wp2_with fail
  go_ret2
  refine ⟨A7, N7, c7', rfl, ?_, hb.next hb7⟩
  have e1 : ([] ++ ([f, fp, t, tp].flatMap fun x => be 1 x.toNat) ++ ([n].flatMap fun x => be 2 x.toNat) : List UInt8) = be 1 f.toNat ++ (be 1 fp.toNat ++ (be 1 t.toNat ++ (be 1 tp.toNat ++ be 2 n.toNat))) := by simp
  rw [e1] at hO7
  exact own_mono hO7 hb.size
theorem rpbytes_no (f fp t tp n : Int) (w : World) (hok : ¬ PrOk f fp t tp n) :
    Calls Try.prog 81 #[.agg #[.int .i64 f, .int .i64 fp, .int .i64 t, .int .i64 tp, .int .i64 n]] w fun e w' => e = .returned (.tuple #[.slice none 0 0, .int .i64 2]) ∧ Below w.heap.size w w' := by
  have hpe := prE_no hok
  have H0 := Lib.hid hpe
  clear hok hpe
  have hb := (Below.refl w.heap.size w).push (.cells #[.int .i64 f, .int .i64 fp, .int .i64 t, .int .i64 tp, .int .i64 n] 23)
  go_enter Try.func81, Try.ntmps81
  go_wp2_with fail
  refine (rpcheck_any _ _ _ _ _ _).mono ?_
  rintro e w2 ⟨rfl, hb2⟩
  simp only [H0.out]
  skip
  go_wp2_with fail
  go_ret2
  exact ⟨rfl, hb.next hb2⟩

theorem rpparse_any (A : Option Addr) (N c : Nat) (l : List UInt8) (w : World) (hl : By w w.heap.size A N l) (hc : N ≤ c) :
    Calls Try.prog 84 #[.slice A N c] w fun e w' =>
      e = .returned (.tuple #[.agg #[.int .i64 (ppV l (ppQ l).1), .int .i64 (ppV l (ppQ l).2.1), .int .i64 (ppV l (ppQ l).2.2.1), .int .i64 (ppV l (ppQ l).2.2.2.1), .int .i64 (ppV l (ppQ l).2.2.2.2)], .int .i64 (ppE l)]) ∧ Below w.heap.size w w' := by
  obtain ⟨k, body, er, ho⟩ : ∃ k body er, openB l = (k, body, er) := ⟨_, _, _, rfl⟩
  have hl0 := hl.boxed (.cells #[.int .i64 0, .int .i64 0, .int .i64 0, .int .i64 0, .int .i64 0] 23)
  have hop := ropen_any A N c l _ hl0 hc
  rw [ho] at hop
  have HO := Lib.hid hop
  clear hop
  by_cases he : er = 0
  · subst he
    have HQ := Lib.hid (show ppQ l = (rd5 (body, 0)).1 by unfold ppQ; rw [ho])
    have HE := Lib.hid (show ppE l = if k = 2 ∧ endE (rd5 (body, 0)).2 = 0 ∧ PrOk (rd5 (body, 0)).1.1 (rd5 (body, 0)).1.2.1 (rd5 (body, 0)).1.2.2.1 (rd5 (body, 0)).1.2.2.2.1 (rd5 (body, 0)).1.2.2.2.2 then 0 else 4 by unfold ppE; rw [ho]; simp)
    have hopl : body.length ≤ 512 := by
      obtain ⟨_, _, _, h⟩ := open_back ho
      omega
    clear ho
    go_enter Try.func84, Try.ntmps84
    go_wp2_with fail
    refine HO.out.mono ?_
    rintro e w1 ⟨A1, N1, c1, rfl, hO1, hb1⟩
    have KG := (Bk.new w 23 #[.int .i64 0, .int .i64 0, .int .i64 0, .int .i64 0, .int .i64 0]).kept hb1
    have hB1 : Below w.heap.size w w1 := Below.new _ hb1
    have hs1 : w.heap.size + 1 ≤ w1.heap.size := by have := hb1.size; simpa using this
    have hy := hO1.by_
    have hN1 := Lib.hid hO1.len
    clear hO1 hb1
    go_wp2_with fail
    refine (rread_any A1 N1 c1 body _ hy (by have := hN1.out; omega)).mono ?_
    rintro e w2 ⟨s, rfl, hR, hs2, hb2⟩
    have KG := KG.kept hb2
    have hB2 := hB1.next hb2
    clear hb2 hy
    obtain ⟨r0, hr0⟩ : ∃ r : Rs, r = (body, 0) := ⟨_, rfl⟩
    rw [← hr0] at hR
    have H0 := Lib.hid hr0
    clear hr0
    go_wp2_with fail
    refine (rnum_any s 1 r0 _ hR (by omega)).mono ?_
    rintro e w3 ⟨rfl, hR, hg⟩
    have KG := KG.grown hg (by intro e; injection e with e; omega)
    have hB2 := below_of_grown hB2 hg hB2.size (by omega)
    clear hg
    obtain ⟨⟨f', r1⟩, hr1⟩ : ∃ p, p = rn 1 r0 := ⟨_, rfl⟩
    rw [← hr1] at hR ⊢
    simp only at hR ⊢
    have H1 := Lib.hid hr1
    clear hr1
    go_wp2_with fail
    refine (rnum_any s 1 r1 _ hR (by omega)).mono ?_
    rintro e w4 ⟨rfl, hR, hg⟩
    have KG := KG.grown hg (by intro e; injection e with e; omega)
    have hB2 := below_of_grown hB2 hg hB2.size (by omega)
    clear hg
    obtain ⟨⟨fp', r2⟩, hr2⟩ : ∃ p, p = rn 1 r1 := ⟨_, rfl⟩
    rw [← hr2] at hR ⊢
    simp only at hR ⊢
    have H2 := Lib.hid hr2
    clear hr2
    go_wp2_with fail
    refine (rnum_any s 1 r2 _ hR (by omega)).mono ?_
    rintro e w5 ⟨rfl, hR, hg⟩
    have KG := KG.grown hg (by intro e; injection e with e; omega)
    have hB2 := below_of_grown hB2 hg hB2.size (by omega)
    clear hg
    obtain ⟨⟨t', r3⟩, hr3⟩ : ∃ p, p = rn 1 r2 := ⟨_, rfl⟩
    rw [← hr3] at hR ⊢
    simp only at hR ⊢
    have H3 := Lib.hid hr3
    clear hr3
    go_wp2_with fail
    refine (rnum_any s 1 r3 _ hR (by omega)).mono ?_
    rintro e w6 ⟨rfl, hR, hg⟩
    have KG := KG.grown hg (by intro e; injection e with e; omega)
    have hB2 := below_of_grown hB2 hg hB2.size (by omega)
    clear hg
    obtain ⟨⟨tp', r4⟩, hr4⟩ : ∃ p, p = rn 1 r3 := ⟨_, rfl⟩
    rw [← hr4] at hR ⊢
    simp only at hR ⊢
    have H4 := Lib.hid hr4
    clear hr4
    go_wp2_with fail
    refine (rnum_any s 2 r4 _ hR (by omega)).mono ?_
    rintro e w7 ⟨rfl, hR, hg⟩
    have KG := KG.grown hg (by intro e; injection e with e; omega)
    have hB2 := below_of_grown hB2 hg hB2.size (by omega)
    clear hg
    obtain ⟨⟨n', r5⟩, hr5⟩ : ∃ p, p = rn 2 r4 := ⟨_, rfl⟩
    rw [← hr5] at hR ⊢
    simp only at hR ⊢
    have H5 := Lib.hid hr5
    clear hr5
    have HQ2 := Lib.hid (show ppQ l = (f', fp', t', tp', n') by
      rw [HQ.out, ← H0.out, rd5]; simp only; rw [← H1.out]; simp only; rw [← H2.out]; simp only; rw [← H3.out]; simp only; rw [← H4.out]; simp only; rw [← H5.out])
    have HE1 := Lib.hid (show ppE l = if k = 2 ∧ endE r5 = 0 ∧ PrOk f' fp' t' tp' n' then 0 else 4 by
      have e5 : rd5 (body, 0) = ((f', fp', t', tp', n'), r5) := by rw [← H0.out]; unfold rd5; simp only [← H1.out, ← H2.out, ← H3.out, ← H4.out, ← H5.out]
      rw [HE.out, e5])
    have KS8 := Bk.new w7 23 #[.int .i64 f', .int .i64 fp', .int .i64 t', .int .i64 tp', .int .i64 n']
    have KG8 := KG.alloc (.cells #[.int .i64 f', .int .i64 fp', .int .i64 t', .int .i64 tp', .int .i64 n'] 23)
    have hR8 := hR.below ((Below.refl w7.heap.size w7).push (.cells #[.int .i64 f', .int .i64 fp', .int .i64 t', .int .i64 tp', .int .i64 n'] 23))
    have hB8 := hB2.push (.cells #[.int .i64 f', .int .i64 fp', .int .i64 t', .int .i64 tp', .int .i64 n'] 23)
    go_upto_region 6 with fail
    clear KG hR hB2
    generalize w7.alloc _ = w8 at KS8 KG8 hR8 hB8 ⊢
    obtain ⟨c0, c1', c2, c3, c4, f0⟩ := KS8.five
    obtain ⟨d0, d1, d2, d3, d4, e0⟩ := KG8.five
    by_cases hk : k = 2
    · have hk2 : (k != 2) = false := by simp [hk]
      by_cases hend : endE r5 = 0
      · have he2 : (endE r5 != 0) = false := by simp [hend]
        by_cases hok : PrOk f' fp' t' tp' n'
        · have HE2 := Lib.hid (show ppE l = 0 by rw [HE1.out, if_pos ⟨hk, hend, hok⟩])
          have hpr := prE_ok hok
          clear hk hok hend
          go_wp2_with (first | (go_at_call 96; refine (rend_any _ _ _ hR8).mono ?_; rintro e w5 ⟨rfl, rfl⟩) | (go_at_call 82; refine (rpcheck_any _ _ _ _ _ _).mono ?_; rintro e w9 ⟨rfl, hb9⟩; have KG9 := KG8.kept hb9; obtain ⟨d0, d1, d2, d3, d4, e0⟩ := KG9.five; obtain ⟨c0, c1', c2, c3, c4, f0⟩ := (KS8.kept hb9).five; have hB9 := hB8.next hb9))
          refine bodyPost_ret (v := .tuple #[.agg #[.int .i64 f', .int .i64 fp', .int .i64 t', .int .i64 tp', .int .i64 n'], .int .i64 0]) (by simp [results, Try.results84, go_sem, d0, d1, d2, d3, d4]) rfl ⟨?_, ?_⟩
          · have HV : ∀ x : Nat, ppV l x = x := fun x => by rw [ppV, HE2.out, if_pos rfl]
            simp only [HV, HQ2.out, HE2.out]
          · repeat (refine Below.setCell ?_ (by simp) _)
            exact hB9
        · have HE2 := Lib.hid (show ppE l = 4 by rw [HE1.out, if_neg (fun h => hok h.2.2)])
          have hpr := prE_no hok
          clear hk hok hend
          go_wp2_with (first | (go_at_call 96; refine (rend_any _ _ _ hR8).mono ?_; rintro e w5 ⟨rfl, rfl⟩) | (go_at_call 82; refine (rpcheck_any _ _ _ _ _ _).mono ?_; rintro e w9 ⟨rfl, hb9⟩; have KG9 := KG8.kept hb9; obtain ⟨d0, d1, d2, d3, d4, e0⟩ := KG9.five; obtain ⟨c0, c1', c2, c3, c4, f0⟩ := (KS8.kept hb9).five; have hB9 := hB8.next hb9))
          refine bodyPost_ret (v := .tuple #[.agg #[.int .i64 0, .int .i64 0, .int .i64 0, .int .i64 0, .int .i64 0], .int .i64 4]) (by simp [results, Try.results84, go_sem, d0, d1, d2, d3, d4]) rfl ⟨?_, ?_⟩
          · have HV : ∀ x : Nat, ppV l x = 0 := fun x => by rw [ppV, HE2.out]; rfl
            simp only [HV, HE2.out]
          · repeat (refine Below.setCell ?_ (by simp) _)
            exact hB9
      · have HE2 := Lib.hid (show ppE l = 4 by rw [HE1.out, if_neg (fun h => hend h.2.1)])
        have he2 : (endE r5 != 0) = true := by simpa using hend
        clear hk hend
        go_wp2_with (first | (go_at_call 96; refine (rend_any _ _ _ hR8).mono ?_; rintro e w5 ⟨rfl, rfl⟩))
        have hB9 := hB8
        refine bodyPost_ret (v := .tuple #[.agg #[.int .i64 0, .int .i64 0, .int .i64 0, .int .i64 0, .int .i64 0], .int .i64 4]) (by simp [results, Try.results84, go_sem, d0, d1, d2, d3, d4]) rfl ⟨?_, ?_⟩
        · have HV : ∀ x : Nat, ppV l x = 0 := fun x => by rw [ppV, HE2.out]; rfl
          simp only [HV, HE2.out]
        · repeat (refine Below.setCell ?_ (by simp) _)
          exact hB9
    · have hk2 : (k != 2) = true := by simpa using hk
      have HE2 := Lib.hid (show ppE l = 4 by rw [HE1.out, if_neg (fun h => hk h.1)])
      clear hk
      go_wp2_with fail
      have hB9 := hB8
      refine bodyPost_ret (v := .tuple #[.agg #[.int .i64 0, .int .i64 0, .int .i64 0, .int .i64 0, .int .i64 0], .int .i64 4]) (by simp [results, Try.results84, go_sem, d0, d1, d2, d3, d4]) rfl ⟨?_, ?_⟩
      · have HV : ∀ x : Nat, ppV l x = 0 := fun x => by rw [ppV, HE2.out]; rfl
        simp only [HV, HE2.out]
      · repeat (refine Below.setCell ?_ (by simp) _)
        exact hB9
  · have H0 := Lib.hid (show ppE l = er by unfold ppE; rw [ho]; exact if_pos he)
    have he2 : (er != 0) = true := by simpa using he
    have HEr := Lib.hid he
    clear he
    go_enter Try.func84, Try.ntmps84
    go_wp2_with (first | (go_at_call 92; refine HO.out.mono ?_; rintro e w1 ⟨A1, N1, c1, rfl, hO1, hb1⟩; obtain ⟨d0, d1, d2, d3, d4, e0⟩ := ((Bk.new w 23 _).kept hb1).five))
    refine bodyPost_ret (v := .tuple #[.agg #[.int .i64 0, .int .i64 0, .int .i64 0, .int .i64 0, .int .i64 0], .int .i64 er]) (by simp [results, Try.results84, go_sem, d0, d1, d2, d3, d4]) rfl ⟨?_, ?_⟩
    · have hV : ∀ x, ppV l x = 0 := fun x => by rw [ppV, if_neg (by rw [H0.out]; exact HEr.out)]
      simp only [hV, H0.out]
    · repeat (refine Below.setCell ?_ (by simp) _)
      exact Below.new _ hb1
end Go.Proofs.Ytfnnjaljnfphlaa
