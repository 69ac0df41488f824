/- The reference's Parse of segments. -/
import Derived.Test.YtfnnjaljnfphlaaSgp
import Derived.Test.YtfnnjaljnfphlaaSgr
import Derived.Test.YtfnnjaljnfphlaaR02
import Derived.Test.YtfnnjaljnfphlaaPla
namespace Go.Proofs.Ytfnnjaljnfphlaa
open Go.RowKit
set_option maxRecDepth 100000
set_option maxHeartbeats 6000000
set_option linter.unusedSimpArgs false
set_option linter.unusedVariables false

theorem rsparse_any (A : Option Addr) (N c : Nat) (l : List UInt8) (w : World) (hl : By w w.heap.size A N l) (hc : N ≤ c) :
    Calls Try.prog 46 #[.slice A N c] w fun e w' => ∃ A' N' c', e = .returned (.tuple #[.agg (sgC (spV l (spQ l).1) (spV l (spQ l).2.1) (spV l (spQ l).2.2.1) (spV l (spQ l).2.2.2.1) (spV l (spQ l).2.2.2.2.1) (spV l (spQ l).2.2.2.2.2.1) (spV l (spQ l).2.2.2.2.2.2.1) (spV l (spQ l).2.2.2.2.2.2.2) A' N' c'), .int .i64 (spE l)]) ∧
      OwnB w' w.heap.size A' N' c' (spL l) ∧ Below w.heap.size w w' := by
  obtain ⟨k, body, er, ho⟩ : ∃ k body er, openB l = (k, body, er) := ⟨_, _, _, rfl⟩
  have hl0 := hl.boxed (.cells #[.int .i64 0, .int .i64 0, .int .i64 0, .int .i64 0, .int .i64 0, .int .i64 0, .int .i64 0, .int .i64 0, .slice none 0 0] 34)
  have hop := ropen_any A N c l _ hl0 hc
  rw [ho] at hop
  have HO := Lib.hid hop
  clear hop
  unfold sgC
  by_cases he : er = 0
  · subst he
    have HQ := Lib.hid (show spQ l = (sg8 (body, 0)).1 by unfold spQ; rw [ho])
    have HT := Lib.hid (show spT l = rt (sg8 (body, 0)).2 by unfold spT; rw [ho])
    have hopl : body.length ≤ 512 := by
      obtain ⟨_, _, _, h⟩ := open_back ho
      omega
    go_enter Try.func46, Try.ntmps46
    go_wp2_with fail
    refine HO.out.mono ?_
    rintro e w1 ⟨A1, N1, c1, rfl, hO1, hb1⟩
    have KG := (Bk.new w 34 #[.int .i64 0, .int .i64 0, .int .i64 0, .int .i64 0, .int .i64 0, .int .i64 0, .int .i64 0, .int .i64 0, .slice none 0 0]).kept hb1
    have hB1 : Below w.heap.size w w1 := Below.new _ hb1
    have hs1 : w.heap.size + 1 ≤ w1.heap.size := by have := hb1.size; simpa using this
    have hy := hO1.by_
    have hN1 := Lib.hid hO1.len
    clear hO1 hb1
    go_wp2_with fail
    refine (rread_any A1 N1 c1 body _ hy (by have := hN1.out; omega)).mono ?_
    rintro e w2 ⟨s, rfl, hR, hs2, hb2⟩
    have KG := KG.kept hb2
    have hB2 := hB1.next hb2
    clear hb2 hy
    obtain ⟨r0, hr0⟩ : ∃ r : Rs, r = (body, 0) := ⟨_, rfl⟩
    rw [← hr0] at hR
    have H0 := Lib.hid hr0
    clear hr0
    go_wp2_with fail
    refine (rnum_any s 1 r0 _ hR (by omega)).mono ?_
    rintro e w3 ⟨rfl, hR, hg⟩
    have KG := KG.grown hg (by intro e; injection e with e; omega)
    have hB2 := below_of_grown hB2 hg hB2.size (by omega)
    clear hg
    obtain ⟨⟨k', r1⟩, hr1⟩ : ∃ p, p = rn 1 r0 := ⟨_, rfl⟩
    rw [← hr1] at hR ⊢
    simp only at hR ⊢
    have H1 := Lib.hid hr1
    clear hr1
    go_wp2_with fail
    refine (rnum_any s 1 r1 _ hR (by omega)).mono ?_
    rintro e w4 ⟨rfl, hR, hg⟩
    have KG := KG.grown hg (by intro e; injection e with e; omega)
    have hB2 := below_of_grown hB2 hg hB2.size (by omega)
    clear hg
    obtain ⟨⟨t', r2⟩, hr2⟩ : ∃ p, p = rn 1 r1 := ⟨_, rfl⟩
    rw [← hr2] at hR ⊢
    simp only at hR ⊢
    have H2 := Lib.hid hr2
    clear hr2
    go_wp2_with fail
    refine (rnum_any s 1 r2 _ hR (by omega)).mono ?_
    rintro e w5 ⟨rfl, hR, hg⟩
    have KG := KG.grown hg (by intro e; injection e with e; omega)
    have hB2 := below_of_grown hB2 hg hB2.size (by omega)
    clear hg
    obtain ⟨⟨f', r3⟩, hr3⟩ : ∃ p, p = rn 1 r2 := ⟨_, rfl⟩
    rw [← hr3] at hR ⊢
    simp only at hR ⊢
    have H3 := Lib.hid hr3
    clear hr3
    go_wp2_with fail
    refine (rnum_any s 1 r3 _ hR (by omega)).mono ?_
    rintro e w6 ⟨rfl, hR, hg⟩
    have KG := KG.grown hg (by intro e; injection e with e; omega)
    have hB2 := below_of_grown hB2 hg hB2.size (by omega)
    clear hg
    obtain ⟨⟨h', r4⟩, hr4⟩ : ∃ p, p = rn 1 r3 := ⟨_, rfl⟩
    rw [← hr4] at hR ⊢
    simp only at hR ⊢
    have H4 := Lib.hid hr4
    clear hr4
    go_wp2_with fail
    refine (rnum_any s 4 r4 _ hR (by omega)).mono ?_
    rintro e w7 ⟨rfl, hR, hg⟩
    have KG := KG.grown hg (by intro e; injection e with e; omega)
    have hB2 := below_of_grown hB2 hg hB2.size (by omega)
    clear hg
    obtain ⟨⟨ep', r5⟩, hr5⟩ : ∃ p, p = rn 4 r4 := ⟨_, rfl⟩
    rw [← hr5] at hR ⊢
    simp only at hR ⊢
    have H5 := Lib.hid hr5
    clear hr5
    go_wp2_with fail
    refine (rnum_any s 4 r5 _ hR (by omega)).mono ?_
    rintro e w8 ⟨rfl, hR, hg⟩
    have KG := KG.grown hg (by intro e; injection e with e; omega)
    have hB2 := below_of_grown hB2 hg hB2.size (by omega)
    clear hg
    obtain ⟨⟨bo', r6⟩, hr6⟩ : ∃ p, p = rn 4 r5 := ⟨_, rfl⟩
    rw [← hr6] at hR ⊢
    simp only at hR ⊢
    have H6 := Lib.hid hr6
    clear hr6
    go_wp2_with fail
    refine (rnum_any s 2 r6 _ hR (by omega)).mono ?_
    rintro e w9 ⟨rfl, hR, hg⟩
    have KG := KG.grown hg (by intro e; injection e with e; omega)
    have hB2 := below_of_grown hB2 hg hB2.size (by omega)
    clear hg
    obtain ⟨⟨sq', r7⟩, hr7⟩ : ∃ p, p = rn 2 r6 := ⟨_, rfl⟩
    rw [← hr7] at hR ⊢
    simp only at hR ⊢
    have H7 := Lib.hid hr7
    clear hr7
    go_wp2_with fail
    refine (rnum_any s 2 r7 _ hR (by omega)).mono ?_
    rintro e w10 ⟨rfl, hR, hg⟩
    have KG := KG.grown hg (by intro e; injection e with e; omega)
    have hB2 := below_of_grown hB2 hg hB2.size (by omega)
    clear hg
    obtain ⟨⟨ac', r8⟩, hr8⟩ : ∃ p, p = rn 2 r7 := ⟨_, rfl⟩
    rw [← hr8] at hR ⊢
    simp only at hR ⊢
    have H8 := Lib.hid hr8
    clear hr8
    have H8 : sg8 (body, 0) = ((k', t', f', h', ep', bo', sq', ac'), r8) := by
      rw [← H0.out]; unfold sg8; simp only [← H1.out, ← H2.out, ← H3.out, ← H4.out, ← H5.out, ← H6.out, ← H7.out, ← H8.out]
    have HQ2 := Lib.hid (show spQ l = (k', t', f', h', ep', bo', sq', ac') by rw [HQ.out, H8])
    have HT2 := Lib.hid (show spT l = rt r8 by rw [HT.out, H8])
    have HE := Lib.hid (show spE l = if k = 3 ∧ endE (rt r8).2 = 0 ∧ SgOk k' t' f' h' ep' bo' sq' ac' (rt r8).1.length then 0 else 4 by
      unfold spE; rw [ho]; simp only [ne_eq, not_true, if_false]; rw [HT2.out, HQ2.out])
    have Hho := Lib.hid ho
    clear ho H8
    have hw10 := hR.lt
    go_wp2_with fail
    refine (rrtext_any s r8 _ hR).mono ?_
    rintro e w11 ⟨A7, N7, c7, rfl, hO7, hR, hg⟩
    have KG := KG.grown hg (by intro e; injection e with e; omega)
    have hB2 := below_of_grown hB2 hg hB2.size (by omega)
    clear hg
    have HN7 := Lib.hid hO7.len
    have KS8 := Bk.new w11 34 #[.int .i64 k', .int .i64 t', .int .i64 f', .int .i64 h', .int .i64 ep', .int .i64 bo', .int .i64 sq', .int .i64 ac', .slice A7 N7 c7]
    have KG8 := KG.alloc (.cells #[.int .i64 k', .int .i64 t', .int .i64 f', .int .i64 h', .int .i64 ep', .int .i64 bo', .int .i64 sq', .int .i64 ac', .slice A7 N7 c7] 34)
    have hR8 := hR.push (.cells #[.int .i64 k', .int .i64 t', .int .i64 f', .int .i64 h', .int .i64 ep', .int .i64 bo', .int .i64 sq', .int .i64 ac', .slice A7 N7 c7] 34)
    have hB8 := hB2.push (.cells #[.int .i64 k', .int .i64 t', .int .i64 f', .int .i64 h', .int .i64 ep', .int .i64 bo', .int .i64 sq', .int .i64 ac', .slice A7 N7 c7] 34)
    have hO8 := hO7.next ((Below.refl w11.heap.size w11).push (.cells #[.int .i64 k', .int .i64 t', .int .i64 f', .int .i64 h', .int .i64 ep', .int .i64 bo', .int .i64 sq', .int .i64 ac', .slice A7 N7 c7] 34))
    have hwO : w.heap.size < w10.heap.size := by omega
    go_upto_region 6 with fail
    clear KG hR hO7 hB2
    generalize w11.alloc _ = w8 at KS8 KG8 hR8 hO8 hB8 ⊢
    obtain ⟨c0, c1', c2, c3, c4, c5, c6, c7', c8, f0⟩ := KS8.nine
    obtain ⟨d0, d1, d2, d3, d4, d5, d6, d7, d8, e0⟩ := KG8.nine
    have CK := fun w => rscheck_below k' t' f' h' ep' bo' sq' ac' A7 N7 c7 w
    unfold sgC at CK
    by_cases hk : k = 3
    · have hk2 : (k != 3) = false := by simp [hk]
      by_cases hend : endE (rt r8).2 = 0
      · have he2 : (endE (rt r8).2 != 0) = false := by simp [hend]
        by_cases hok : SgOk k' t' f' h' ep' bo' sq' ac' N7
        · have HE2 := Lib.hid (show spE l = 0 by rw [HE.out, if_pos ⟨hk, hend, by rw [HN7.out]; exact hok⟩])
          simp only [sgE_ok hok] at CK
          have CKh := Lib.hid CK
          clear CK hk hok hend
          go_wp2_with (first | (go_at_call 96; refine (rend_any _ _ _ hR8).mono ?_; rintro e w5 ⟨rfl, rfl⟩) | (go_at_call 28; refine (CKh.out _).mono ?_; rintro e w9 ⟨rfl, hb9⟩; have KG9 := KG8.kept hb9; obtain ⟨d0, d1, d2, d3, d4, d5, d6, d7, d8, e0⟩ := KG9.nine; obtain ⟨c0, c1', c2, c3, c4, c5, c6, c7', c8, f0⟩ := (KS8.kept hb9).nine; have hB9 := hB8.next hb9; have hO9 := hO8.next hb9))
          refine bodyPost_ret (v := .tuple #[.agg #[.int .i64 k', .int .i64 t', .int .i64 f', .int .i64 h', .int .i64 ep', .int .i64 bo', .int .i64 sq', .int .i64 ac', .slice A7 N7 c7], .int .i64 0]) (by simp [results, Try.results46, go_sem, d0, d1, d2, d3, d4, d5, d6, d7, d8]) rfl ⟨A7, N7, c7, ?_, ?_, ?_⟩
          · have HV : ∀ x : Nat, spV l x = x := fun x => by rw [spV, HE2.out, if_pos rfl]
            simp only [HV, HQ2.out, HE2.out]
          · refine OwnB.more_ (own_set9 (b := w10.heap.size) ?_ hwO _ _ _ _ _ _ _ _ _) (Nat.le_of_lt hwO)
            have : spL l = (rt r8).1 := by rw [spL, HE2.out, if_pos rfl, HT2.out]
            rw [this]
            exact hO9
          · repeat (refine Below.setCell ?_ (by simp) _)
            exact hB9
        · have HE2 := Lib.hid (show spE l = 4 by rw [HE.out, if_neg (fun h => hok (by rw [← HN7.out]; exact h.2.2))])
          simp only [sgE_no hok] at CK
          have CKh := Lib.hid CK
          clear CK hk hok hend
          go_wp2_with (first | (go_at_call 96; refine (rend_any _ _ _ hR8).mono ?_; rintro e w5 ⟨rfl, rfl⟩) | (go_at_call 28; refine (CKh.out _).mono ?_; rintro e w9 ⟨rfl, hb9⟩; have KG9 := KG8.kept hb9; obtain ⟨d0, d1, d2, d3, d4, d5, d6, d7, d8, e0⟩ := KG9.nine; obtain ⟨c0, c1', c2, c3, c4, c5, c6, c7', c8, f0⟩ := (KS8.kept hb9).nine; have hB9 := hB8.next hb9; have hO9 := hO8.next hb9))
          refine bodyPost_ret (v := .tuple #[.agg #[.int .i64 0, .int .i64 0, .int .i64 0, .int .i64 0, .int .i64 0, .int .i64 0, .int .i64 0, .int .i64 0, .slice none 0 0], .int .i64 4]) (by simp [results, Try.results46, go_sem, d0, d1, d2, d3, d4, d5, d6, d7, d8]) rfl ⟨none, 0, 0, ?_, ?_, ?_⟩
          · have HV : ∀ x : Nat, spV l x = 0 := fun x => by rw [spV, HE2.out]; rfl
            simp only [HV, HE2.out]
          · have : spL l = [] := by rw [spL, HE2.out]; rfl
            rw [this]
            exact World.ownsRow_nil _ _ _ _
          · repeat (refine Below.setCell ?_ (by simp) _)
            exact hB9
      · have HE2 := Lib.hid (show spE l = 4 by rw [HE.out, if_neg (fun h => hend h.2.1)])
        have he2 : (endE (rt r8).2 != 0) = true := by simpa using hend
        clear CK hk hend
        go_wp2_with (first | (go_at_call 96; refine (rend_any _ _ _ hR8).mono ?_; rintro e w5 ⟨rfl, rfl⟩))
        have hB9 := hB8
        refine bodyPost_ret (v := .tuple #[.agg #[.int .i64 0, .int .i64 0, .int .i64 0, .int .i64 0, .int .i64 0, .int .i64 0, .int .i64 0, .int .i64 0, .slice none 0 0], .int .i64 4]) (by simp [results, Try.results46, go_sem, d0, d1, d2, d3, d4, d5, d6, d7, d8]) rfl ⟨none, 0, 0, ?_, ?_, ?_⟩
        · have HV : ∀ x : Nat, spV l x = 0 := fun x => by rw [spV, HE2.out]; rfl
          simp only [HV, HE2.out]
        · have : spL l = [] := by rw [spL, HE2.out]; rfl
          rw [this]
          exact World.ownsRow_nil _ _ _ _
        · repeat (refine Below.setCell ?_ (by simp) _)
          exact hB9
    · have hk2 : (k != 3) = true := by simpa using hk
      have HE2 := Lib.hid (show spE l = 4 by rw [HE.out, if_neg (fun h => hk h.1)])
      clear CK hk
      go_wp2_with fail
      have hB9 := hB8
      refine bodyPost_ret (v := .tuple #[.agg #[.int .i64 0, .int .i64 0, .int .i64 0, .int .i64 0, .int .i64 0, .int .i64 0, .int .i64 0, .int .i64 0, .slice none 0 0], .int .i64 4]) (by simp [results, Try.results46, go_sem, d0, d1, d2, d3, d4, d5, d6, d7, d8]) rfl ⟨none, 0, 0, ?_, ?_, ?_⟩
      · have HV : ∀ x : Nat, spV l x = 0 := fun x => by rw [spV, HE2.out]; rfl
        simp only [HV, HE2.out]
      · have : spL l = [] := by rw [spL, HE2.out]; rfl
        rw [this]
        exact World.ownsRow_nil _ _ _ _
      · repeat (refine Below.setCell ?_ (by simp) _)
        exact hB9
  · have H0 := Lib.hid (show spE l = er by unfold spE; rw [ho]; exact if_pos he)
    have he2 : (er != 0) = true := by simpa using he
    have HEr := Lib.hid he
    clear he
    go_enter Try.func46, Try.ntmps46
    go_wp2_with (first | (go_at_call 92; refine HO.out.mono ?_; rintro e w1 ⟨A1, N1, c1, rfl, hO1, hb1⟩; obtain ⟨d0, d1, d2, d3, d4, d5, d6, d7, d8, e0⟩ := ((Bk.new w 34 _).kept hb1).nine))
    refine bodyPost_ret (v := .tuple #[.agg #[.int .i64 0, .int .i64 0, .int .i64 0, .int .i64 0, .int .i64 0, .int .i64 0, .int .i64 0, .int .i64 0, .slice none 0 0], .int .i64 er]) (by simp [results, Try.results46, go_sem, d0, d1, d2, d3, d4, d5, d6, d7, d8]) rfl ⟨none, 0, 0, ?_, ?_, ?_⟩
    · have hV : ∀ x, spV l x = 0 := fun x => by rw [spV, if_neg (by rw [H0.out]; exact HEr.out)]
      simp only [hV, H0.out]
    · have : spL l = [] := by rw [spL, if_neg (by rw [H0.out]; exact HEr.out)]
      rw [this]
      exact World.ownsRow_nil _ _ _ _
    · repeat (refine Below.setCell ?_ (by simp) _)
      exact Below.new _ hb1
end Go.Proofs.Ytfnnjaljnfphlaa
