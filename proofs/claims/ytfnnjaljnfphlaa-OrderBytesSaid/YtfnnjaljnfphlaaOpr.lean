/- Orders, plain: the bytes of what was read are what it was read from. -/
import Derived.Test.YtfnnjaljnfphlaaOpq
import Derived.Test.YtfnnjaljnfphlaaL04a
namespace Go.Proofs.Ytfnnjaljnfphlaa
set_option maxRecDepth 100000
set_option maxHeartbeats 4000000
set_option linter.unusedSimpArgs false
set_option linter.unusedVariables false

theorem of_be {x : Nat} (h : x < 256 ^ 1) : [UInt8.ofNat x] = be 1 x := by
  rw [← be1]
  congr 1
  simp [UInt8.toNat_ofNat']
  omega
theorem rdOut_back {s : Rs} (h : (rdOut s).2.2 = 0) : s.2 = 0 ∧ s.1 = outBy (rdOut s).1 ++ (rdOut s).2.1 := by
  unfold rdOut at h ⊢
  simp only at h ⊢
  obtain ⟨d1, d2, d3⟩ := rn_back h
  obtain ⟨c1, c2, c3⟩ := rn_back d1
  obtain ⟨b1, b2, b3⟩ := rn_back c1
  obtain ⟨a1, a2, a3⟩ := rn_back b1
  refine ⟨a1, ?_⟩
  rw [a2, b2, c2, d2]
  simp only [outBy, Int.toNat_natCast, Int.sub_add_cancel, List.append_assoc]
theorem rdOuts_len (n : Nat) : ∀ s, (rdOuts n s).1.length = n := by
  induction n with
  | zero => intro s; rfl
  | succ n ih => intro s; simp [rdOuts, ih]
theorem rdOuts_back (n : Nat) : ∀ {s : Rs}, (rdOuts n s).2.2 = 0 → s.2 = 0 ∧ s.1 = (rdOuts n s).1.flatMap outBy ++ (rdOuts n s).2.1 := by
  induction n with
  | zero => intro s h; exact ⟨h, by simp [rdOuts]⟩
  | succ n ih =>
    intro s h
    obtain ⟨h1, h2⟩ := ih (show (rdOuts n (rdOut s).2).2.2 = 0 from h)
    obtain ⟨h3, h4⟩ := rdOut_back h1
    refine ⟨h3, ?_⟩
    rw [h4, h2]
    simp [rdOuts]
theorem rdH_back {s : Rs} (h : (rdH s).2.2 = 0) : s.2 = 0 ∧ s.1 = [(rdH s).1.1, (rdH s).1.2.1, (rdH s).1.2.2] ++ (rdH s).2.1 := by
  unfold rdH at h ⊢
  simp only at h ⊢
  obtain ⟨c1, c2, c3⟩ := rn_back h
  obtain ⟨b1, b2, b3⟩ := rn_back c1
  obtain ⟨a1, a2, a3⟩ := rn_back b1
  refine ⟨a1, ?_⟩
  rw [a2, b2, c2, ← of_be a3, ← of_be b3, ← of_be c3]
  simp
theorem rdMk_back {s : Rs} (h : (rdMk s).2.2 = 0) : s.2 = 0 ∧ s.1 = mkBy (rdMk s).1 ++ (rdMk s).2.1 := by
  unfold rdMk at h ⊢
  simp only at h ⊢
  obtain ⟨d1, d2⟩ := rdH_back h
  obtain ⟨c1, c2⟩ := rdH_back d1
  obtain ⟨b1, b2, b3⟩ := rn_back c1
  obtain ⟨a1, a2, a3⟩ := rn_back b1
  refine ⟨a1, ?_⟩
  rw [a2, b2, c2, d2]
  simp only [mkBy, Int.toNat_natCast, Int.sub_add_cancel, List.append_assoc, List.cons_append, List.nil_append]
theorem rdRu_back {s : Rs} (h : (rdRu s).2.2 = 0) : s.2 = 0 ∧ s.1 = ruBy (rdRu s).1 ++ (rdRu s).2.1 := by
  unfold rdRu at h ⊢
  simp only at h ⊢
  by_cases hk : (rn 1 s).1 = 1
  · rw [if_pos hk] at h ⊢
    simp only at h ⊢
    obtain ⟨g1, g2⟩ := rdOuts_back _ h
    obtain ⟨f1, f2, f3⟩ := rn_back g1
    obtain ⟨e1, e2⟩ := rdMk_back f1
    obtain ⟨d1, d2, d3⟩ := rn_back e1
    obtain ⟨c1, c2, c3⟩ := rn_back d1
    obtain ⟨b1, b2, b3⟩ := rn_back c1
    obtain ⟨a1, a2, a3⟩ := rn_back b1
    refine ⟨a1, ?_⟩
    rw [a2, b2, c2, d2, e2, f2, g2]
    have hk' : (((rn 1 s).1 : Nat) : Int) = 1 := by omega
    simp only [ruBy, Int.toNat_natCast, if_pos hk', rdOuts_len, List.append_assoc]
  · rw [if_neg hk] at h ⊢
    simp only at h ⊢
    obtain ⟨d1, d2, d3⟩ := rn_back h
    obtain ⟨c1, c2, c3⟩ := rn_back d1
    obtain ⟨b1, b2, b3⟩ := rn_back c1
    obtain ⟨a1, a2, a3⟩ := rn_back b1
    refine ⟨a1, ?_⟩
    rw [a2, b2, c2, d2]
    have hk' : ¬ (((rn 1 s).1 : Nat) : Int) = 1 := by omega
    simp only [ruBy, Int.toNat_natCast, if_neg hk', List.append_assoc, List.nil_append]
theorem ppP_back {l : List UInt8} (h : ppE l = 0) : prBy (ppP l) = l ∧ PrOk5 (ppP l) := by
  obtain ⟨h1, h2⟩ := pp_again h
  refine ⟨?_, ?_⟩
  · rw [prBy_eq, ppP]
    simp only [ppV, h, if_true]
    exact h2
  · unfold PrOk5 ppP
    simp only [ppV, h, if_true]
    exact h1
theorem kRd_back {k : Int} (hk : 1 ≤ k ∧ k ≤ 9) {s : Rs} (h : (kRd k (s, false)).2.1.2 = 0) (ho : (kRd k (s, false)).2.2 = false) : s.2 = 0 ∧ s.1 = kBy (kRd k (s, false)).1 ++ (kRd k (s, false)).2.1.1 := by
  obtain rfl | rfl | rfl | rfl | rfl | rfl | rfl | rfl | rfl : k = 1 ∨ k = 2 ∨ k = 3 ∨ k = 4 ∨ k = 5 ∨ k = 6 ∨ k = 7 ∨ k = 8 ∨ k = 9 := by omega
  all_goals simp [kRd] at h ho ⊢
  · exact ⟨h, by simp [kBy]⟩
  · simpa [kBy] using rdRu_back h
  · simpa [kBy] using rdRu_back h
  · obtain ⟨a1, a2, a3⟩ := rn_back h
    exact ⟨a1, by simpa [kBy] using a2⟩
  · obtain ⟨b1, b2, b3⟩ := rn_back h
    obtain ⟨a1, a2, a3⟩ := rn_back b1
    refine ⟨a1, ?_⟩
    simp only [kBy]
    simp
    rw [← b2]; exact a2
  · obtain ⟨a1, a2, a3⟩ := rn_back h
    exact ⟨a1, by simpa [kBy] using a2⟩
  · obtain ⟨b1, b2, b3⟩ := rn_back h
    obtain ⟨a1, a2, a3⟩ := rn_back b1
    refine ⟨a1, ?_⟩
    simp only [kBy]
    simp
    rw [← b2]; exact a2
  · unfold rpF at h ho ⊢
    by_cases he : (rt s).2.2 = 0
    · simp only [he, if_true] at h ho ⊢
      obtain ⟨a1, a2, a3⟩ := rt_back he
      have hp : ppE (rt s).1 = 0 := by simpa using ho
      refine ⟨a1, ?_⟩
      simp only [kBy]
      simp
      rw [(ppP_back hp).1]
      exact a2
    · simp only [he, if_false] at h
  · obtain ⟨b1, b2, b3⟩ := rn_back h
    obtain ⟨a1, a2, a3⟩ := rn_back b1
    refine ⟨a1, ?_⟩
    simp only [kBy]
    simp
    rw [← b2]; exact a2
theorem kRd_k (k : Int) (s : Rs × Bool) : (kRd k s).1.k = k := by
  unfold kRd
  repeat' split
  all_goals rfl
/-- What is read and may be is what was written. -/
theorem op_again {l : List UInt8} (h : orE l = 0) : orB (orV l) = true ∧ orBy (orV l) = l := by
  have hv : orV l = (orQ l).1 := by rw [orV, if_pos h]
  unfold orE orE' at h
  by_cases he : (orQ l).2.1.2 = 0
  · rw [if_neg (by simp [he])] at h
    by_cases hc : (orQ l).2.2 = false ∧ endE (orQ l).2.1 = 0 ∧ orB (orQ l).1 = true
    · obtain ⟨h1, h2, h3⟩ := hc
      rw [hv]
      refine ⟨h3, ?_⟩
      have hnil := (end_ok.1 h2).2
      have h9 := orB_kind h3
      unfold orQ at h1 he h3 h9 hnil ⊢
      rw [kRd_k] at h9
      obtain ⟨a1, a2⟩ := kRd_back h9 he h1
      obtain ⟨b1, b2, b3⟩ := rn_back a1
      rw [hnil, List.append_nil] at a2
      rw [orBy_k, kRd_k, Int.toNat_natCast, ← a2]
      exact b2.symm
    · rw [if_neg hc] at h
      exact absurd h (by decide)
  · rw [if_pos he] at h
    exact absurd h he
/-- An error is 0, 3 or 4. -/
theorem tk_e03 (m : Nat) {s : Rs} (h : s.2 = 0 ∨ s.2 = 3) : (tk m s).2.2 = 0 ∨ (tk m s).2.2 = 3 := by
  unfold tk
  split
  · exact h
  · split
    · exact .inr rfl
    · exact .inl rfl
theorem rn_err (m : Nat) {s : Rs} (h : s.2 = 0 ∨ s.2 = 3) : (rn m s).2.2 = 0 ∨ (rn m s).2.2 = 3 := tk_e03 m h
theorem rdOut_err {s : Rs} (h : s.2 = 0 ∨ s.2 = 3) : (rdOut s).2.2 = 0 ∨ (rdOut s).2.2 = 3 := rn_err 2 (rn_err 2 (rn_err 2 (rn_err 1 h)))
theorem rdOuts_err (n : Nat) : ∀ {s : Rs}, (s.2 = 0 ∨ s.2 = 3) → ((rdOuts n s).2.2 = 0 ∨ (rdOuts n s).2.2 = 3) := by
  induction n with
  | zero => intro s h; exact h
  | succ n ih => intro s h; exact ih (rdOut_err h)
theorem rdH_err {s : Rs} (h : s.2 = 0 ∨ s.2 = 3) : (rdH s).2.2 = 0 ∨ (rdH s).2.2 = 3 := rn_err 1 (rn_err 1 (rn_err 1 h))
theorem rdMk_err {s : Rs} (h : s.2 = 0 ∨ s.2 = 3) : (rdMk s).2.2 = 0 ∨ (rdMk s).2.2 = 3 := rdH_err (rdH_err (rn_err 1 (rn_err 1 h)))
theorem rdRu_err {s : Rs} (h : s.2 = 0 ∨ s.2 = 3) : (rdRu s).2.2 = 0 ∨ (rdRu s).2.2 = 3 := by
  have h4 := rn_err 1 (rn_err 1 (rn_err 2 (rn_err 1 h)))
  unfold rdRu
  simp only
  split
  · exact rdOuts_err _ (rn_err 1 (rdMk_err h4))
  · exact h4
theorem kRd_err {k : Int} {s : Rs} (h : s.2 = 0 ∨ s.2 = 3) : (kRd k (s, false)).2.1.2 = 0 ∨ (kRd k (s, false)).2.1.2 = 3 := by
  unfold kRd
  split
  · exact rdRu_err h
  split
  · exact rn_err 1 h
  split
  · exact rn_err 2 (rn_err 1 h)
  split
  · exact rn_err 4 h
  split
  · exact rn_err 2 (rn_err 4 h)
  split
  · have := tk_e03 (rn 2 s).1 (rn_err 2 h)
    simp only [rpF]
    split
    · exact this
    · exact this
  split
  · exact rn_err 1 (rn_err 1 h)
  · exact h
theorem orE_of (l : List UInt8) : orE l = 0 ∨ orE l = 3 ∨ orE l = 4 := by
  unfold orE orE'
  have := kRd_err (k := ((rn 1 (l, 0)).1 : Int)) (rn_err 1 (s := (l, 0)) (.inl rfl))
  by_cases he : (orQ l).2.1.2 = 0
  · rw [if_neg (by simp [he])]
    split
    · exact .inl rfl
    · exact .inr (.inr rfl)
  · rw [if_pos he]
    exact .inr (.inl (this.resolve_left he))
end Go.Proofs.Ytfnnjaljnfphlaa
