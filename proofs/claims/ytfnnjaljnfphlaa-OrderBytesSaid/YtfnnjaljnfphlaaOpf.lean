/- Orders, plain: what may be is read of its bytes; a part of them ends too early; with one byte more they are none's. -/
import Derived.Test.YtfnnjaljnfphlaaOpr
import Derived.Test.YtfnnjaljnfphlaaRpb
namespace Go.Proofs.Ytfnnjaljnfphlaa
set_option maxRecDepth 100000
set_option maxHeartbeats 4000000
set_option linter.unusedSimpArgs false
set_option linter.unusedVariables false

theorem rdOut_fore {o : Out4} (h : outB4 o = true) (t : List UInt8) : rdOut (outBy o ++ t, 0) = (o, (t, 0)) := by
  obtain ⟨p, x, y, z⟩ := o
  simp only [outB4, Bool.and_eq_true, inB_iff] at h
  unfold rdOut outBy
  have h1 : p.toNat < 256 ^ 1 := by omega
  have h2 : (x + 1).toNat < 256 ^ 2 := by omega
  have h3 : (y + 1).toNat < 256 ^ 2 := by omega
  have h4 : (z + 1).toNat < 256 ^ 2 := by omega
  simp only [List.append_assoc, rn_fore h1, rn_fore h2, rn_fore h3, rn_fore h4, Prod.mk.injEq, and_true]
  omega
theorem rdOuts_fore {os : List Out4} (h : ∀ o ∈ os, outB4 o = true) (t : List UInt8) : rdOuts os.length (os.flatMap outBy ++ t, 0) = (os, (t, 0)) := by
  induction os with
  | nil => rfl
  | cons o os ih =>
    rw [List.flatMap_cons, List.append_assoc, List.length_cons, rdOuts]
    simp only [rdOut_fore (h o (by simp)), ih fun o ho => h o (by simp [ho])]
theorem rdH_fore (c0 c1 c2 : UInt8) (t : List UInt8) : rdH (c0 :: c1 :: c2 :: t, 0) = ((c0, c1, c2), (t, 0)) := by
  have e : c0 :: c1 :: c2 :: t = be 1 c0.toNat ++ (be 1 c1.toNat ++ (be 1 c2.toNat ++ t)) := by simp [be1]
  have hb : ∀ c : UInt8, c.toNat < 256 ^ 1 := fun c => by have := c.toNat_lt; omega
  rw [e]
  unfold rdH
  simp only [rn_fore (hb c0), rn_fore (hb c1), rn_fore (hb c2), UInt8.ofNat_toNat]
theorem rdMk_fore {m : Mk} (h : mkB m = true) (t : List UInt8) : rdMk (mkBy m ++ t, 0) = (m, (t, 0)) := by
  obtain ⟨ve, mp, b0, b1, b2, i0, i1, i2⟩ := m
  simp only [mkB, Bool.and_eq_true, inB_iff] at h
  obtain ⟨⟨⟨⟨h1, h2⟩, _⟩, _⟩, _⟩ := h
  have g1 : ve.toNat < 256 ^ 1 := by omega
  have g2 : (mp + 1).toNat < 256 ^ 1 := by omega
  unfold rdMk mkBy
  simp only [List.append_assoc, List.cons_append, List.nil_append, rn_fore g1, rn_fore g2, rdH_fore, Prod.mk.injEq, Mk.mk.injEq, and_true]
  omega
theorem mkZ_eq {m : Mk} (h : mkZ m = true) : m = mk0 := by
  obtain ⟨ve, mp, b0, b1, b2, i0, i1, i2⟩ := m
  simp only [mkZ, Bool.and_eq_true, beq_iff_eq, and_true] at h
  obtain ⟨h1, h2, ⟨h3, h4, h5⟩, h6, h7, h8⟩ := h
  subst h1 h2 h3 h4 h5 h6 h7 h8
  rfl
theorem prZ_eq {p : Pr5} (h : prZ p = true) : p = pr0 := by
  obtain ⟨f, fp, t, tp, n⟩ := p
  simp only [prZ, Bool.and_eq_true, beq_iff_eq, and_true] at h
  obtain ⟨h1, h2, h3, h4, h5⟩ := h
  subst h1 h2 h3 h4 h5
  rfl
theorem ruZ_eq {r : Ru} (h : ruZ r = true) : r = ru0 := by
  obtain ⟨k, pr, to_, po, m, os⟩ := r
  simp only [ruZ, Bool.and_eq_true, beq_iff_eq] at h
  obtain ⟨⟨⟨⟨⟨h1, h2⟩, h3⟩, h4⟩, h5⟩, h6⟩ := h
  have h7 := List.eq_nil_of_length_eq_zero h6
  have h8 := mkZ_eq h5
  subst h1 h2 h3 h4 h7 h8
  rfl
theorem rdRu_fore {r : Ru} (h : ruB r = true) (t : List UInt8) : rdRu (ruBy r ++ t, 0) = (r, (t, 0)) := by
  obtain ⟨k, pr, to_, po, m, os⟩ := r
  by_cases hk : k = 2
  · subst hk
    simp only [ruB, if_true, Bool.and_eq_true, inB_iff, beq_iff_eq] at h
    obtain ⟨⟨⟨⟨h1, h2⟩, h3⟩, h4⟩, h5⟩ := h
    have h6 := List.eq_nil_of_length_eq_zero h5
    have h7 := mkZ_eq h4
    subst h6 h3 h7
    have g1 : (2 : Int).toNat < 256 ^ 1 := by decide
    have g2 : (0 : Int).toNat < 256 ^ 2 := by decide
    have g3 : to_.toNat < 256 ^ 1 := by omega
    have g4 : po.toNat < 256 ^ 1 := by omega
    have e2 : ¬ (2 : Int) = 1 := by decide
    have e3 : ¬ (2 : Int).toNat = 1 := by decide
    unfold rdRu ruBy
    simp only [List.append_assoc, if_neg e2, rn_fore g1, rn_fore g2, rn_fore g3, rn_fore g4, if_neg e3, List.nil_append, Prod.mk.injEq, Ru.mk.injEq, and_true]
    omega
  · simp only [ruB, hk, if_false, Bool.and_eq_true, inB_iff, beq_iff_eq, decide_eq_true_eq, List.all_eq_true] at h
    obtain ⟨⟨⟨⟨⟨⟨h1, h2⟩, h3⟩, h4⟩, h5⟩, h6⟩, h7⟩ := h
    subst h1 h5 h6
    have g1 : (1 : Int).toNat < 256 ^ 1 := by decide
    have g2 : pr.toNat < 256 ^ 2 := by omega
    have g3 : (0 : Int).toNat < 256 ^ 1 := by decide
    have g5 : os.length < 256 ^ 1 := by omega
    have e3 : (1 : Int).toNat = 1 := by decide
    unfold rdRu ruBy
    simp only [List.append_assoc, if_true, rn_fore g1, rn_fore g2, rn_fore g3, if_pos e3, rdMk_fore h7, rn_fore g5, rdOuts_fore h3, Prod.mk.injEq, Ru.mk.injEq, and_true]
    omega
theorem ppP_fore {p : Pr5} (h : PrOk5 p) : ppE (prBy p) = 0 ∧ ppP (prBy p) = p := by
  obtain ⟨h1, h2⟩ := pp_fore h.ok
  rw [← prBy_eq] at h1 h2
  refine ⟨h1, ?_⟩
  rw [ppP]
  simp only [ppV, h1, h2, if_true]
  obtain ⟨f, fp, t, tp, n⟩ := p
  unfold PrOk5 at h
  simp only [Pr5.mk.injEq] at h ⊢
  omega
theorem kRd_fore {o : Or6} (h : orB o = true) (t : List UInt8) : kRd o.k ((kBy o ++ t, 0), false) = (o, ((t, 0), false)) := by
  have h9 := orB_kind h
  obtain ⟨h1, h2⟩ := Bool.and_eq_true_iff.1 h
  obtain ⟨k, n, m, r, p⟩ := o
  simp only at h9
  obtain rfl | rfl | rfl | rfl | rfl | rfl | rfl | rfl | rfl : k = 1 ∨ k = 2 ∨ k = 3 ∨ k = 4 ∨ k = 5 ∨ k = 6 ∨ k = 7 ∨ k = 8 ∨ k = 9 := by omega
  all_goals
    simp [spB] at h1
    simp [inB_iff] at h2
    simp [kRd, kBy]
  · obtain ⟨⟨⟨a1, a2⟩, a3⟩, a4⟩ := h1
    have := prZ_eq a3
    have := ruZ_eq a4
    simp [*]
  · obtain ⟨⟨a1, a2⟩, a3⟩ := h1
    have := prZ_eq a3
    simp [rdRu_fore h2, *]
  · obtain ⟨⟨a1, a2⟩, a3⟩ := h1
    have := prZ_eq a3
    simp [rdRu_fore h2, *]
  · obtain ⟨⟨a1, a3⟩, a4⟩ := h1
    have := prZ_eq a3
    have := ruZ_eq a4
    have g : n.toNat < 256 ^ 1 := by omega
    simp [rn_fore g, *]
    omega
  · obtain ⟨a3, a4⟩ := h1
    have := prZ_eq a3
    have := ruZ_eq a4
    have g : n.toNat < 256 ^ 1 := by omega
    have g' : m.toNat < 256 ^ 2 := by omega
    simp [rn_fore g, rn_fore g', *]
    omega
  · obtain ⟨⟨a1, a3⟩, a4⟩ := h1
    have := prZ_eq a3
    have := ruZ_eq a4
    have g : n.toNat < 256 ^ 4 := by omega
    simp [rn_fore g, *]
    omega
  · obtain ⟨a3, a4⟩ := h1
    have := prZ_eq a3
    have := ruZ_eq a4
    have g : n.toNat < 256 ^ 4 := by omega
    have g' : m.toNat < 256 ^ 2 := by omega
    simp [rn_fore g, rn_fore g', *]
    omega
  · obtain ⟨⟨a1, a2⟩, a3⟩ := h1
    have := ruZ_eq a3
    have hp := ppP_fore h2.1
    have hl : (prBy p).length < 65536 := by rw [prBy_eq, prB_len]; omega
    simp [rpF, rt_fore hl, hp, *]
  · obtain ⟨a3, a4⟩ := h1
    have := prZ_eq a3
    have := ruZ_eq a4
    have g : n.toNat < 256 ^ 1 := by omega
    have g' : m.toNat < 256 ^ 1 := by omega
    simp [rn_fore g, rn_fore g', *]
    omega
theorem orQ_fore {o : Or6} (h : orB o = true) (t : List UInt8) : orQ (orBy o ++ t) = (o, ((t, 0), false)) := by
  have h9 := orB_kind h
  have g : o.k.toNat < 256 ^ 1 := by omega
  unfold orQ
  rw [orBy_k, List.append_assoc, rn_fore g]
  simp only [show ((o.k.toNat : Nat) : Int) = o.k by omega]
  exact kRd_fore h t
/-- What may be is read of its bytes. -/
theorem or_fore {o : Or6} (h : orB o = true) : orE (orBy o) = 0 ∧ orV (orBy o) = o := by
  have hq := orQ_fore h []
  rw [List.append_nil] at hq
  have he : orE (orBy o) = 0 := by
    unfold orE orE'
    rw [hq]
    simp [h, endE]
  exact ⟨he, by rw [orV, if_pos he, hq]⟩
theorem or_more {o : Or6} (h : orB o = true) (c : UInt8) : orE (orBy o ++ [c]) = 4 := by
  have hq := orQ_fore h [c]
  unfold orE orE'
  rw [hq]
  simp [endE]
/-- What is read of bytes is read of them and more. -/
theorem rn_loc {m : Nat} {s : Rs} (u : List UInt8) (h : (rn m s).2.2 = 0) : s.2 = 0 ∧ rn m (s.1 ++ u, 0) = ((rn m s).1, ((rn m s).2.1 ++ u, 0)) := by
  obtain ⟨h1, h2, h3⟩ := rn_back h
  refine ⟨h1, ?_⟩
  have := rn_fore h3 ((rn m s).2.1 ++ u)
  rw [← List.append_assoc, ← h2] at this
  exact this
theorem rt_loc {s : Rs} (u : List UInt8) (h : (rt s).2.2 = 0) : s.2 = 0 ∧ rt (s.1 ++ u, 0) = ((rt s).1, ((rt s).2.1 ++ u, 0)) := by
  obtain ⟨h1, h2, h3⟩ := rt_back h
  refine ⟨h1, ?_⟩
  have := rt_fore (r := (rt s).2.1 ++ u) h3
  rw [← List.append_assoc (rt s).1, ← List.append_assoc, ← h2] at this
  exact this
theorem rdOut_loc {s : Rs} (u : List UInt8) (h : (rdOut s).2.2 = 0) : s.2 = 0 ∧ rdOut (s.1 ++ u, 0) = ((rdOut s).1, ((rdOut s).2.1 ++ u, 0)) := by
  unfold rdOut at h ⊢
  simp only at h ⊢
  obtain ⟨d1, d2⟩ := rn_loc u h
  obtain ⟨c1, c2⟩ := rn_loc u d1
  obtain ⟨b1, b2⟩ := rn_loc u c1
  obtain ⟨a1, a2⟩ := rn_loc u b1
  refine ⟨a1, ?_⟩
  simp only [a2, b2, c2, d2]
theorem rdOuts_loc (n : Nat) (u : List UInt8) : ∀ {s : Rs}, (rdOuts n s).2.2 = 0 → s.2 = 0 ∧ rdOuts n (s.1 ++ u, 0) = ((rdOuts n s).1, ((rdOuts n s).2.1 ++ u, 0)) := by
  induction n with
  | zero => intro s h; exact ⟨h, rfl⟩
  | succ n ih =>
    intro s h
    obtain ⟨h1, h2⟩ := ih (show (rdOuts n (rdOut s).2).2.2 = 0 from h)
    obtain ⟨h3, h4⟩ := rdOut_loc u h1
    refine ⟨h3, ?_⟩
    simp only [rdOuts, h4, h2]
theorem rdH_loc {s : Rs} (u : List UInt8) (h : (rdH s).2.2 = 0) : s.2 = 0 ∧ rdH (s.1 ++ u, 0) = ((rdH s).1, ((rdH s).2.1 ++ u, 0)) := by
  unfold rdH at h ⊢
  simp only at h ⊢
  obtain ⟨c1, c2⟩ := rn_loc u h
  obtain ⟨b1, b2⟩ := rn_loc u c1
  obtain ⟨a1, a2⟩ := rn_loc u b1
  refine ⟨a1, ?_⟩
  simp only [a2, b2, c2]
theorem rdMk_loc {s : Rs} (u : List UInt8) (h : (rdMk s).2.2 = 0) : s.2 = 0 ∧ rdMk (s.1 ++ u, 0) = ((rdMk s).1, ((rdMk s).2.1 ++ u, 0)) := by
  unfold rdMk at h ⊢
  simp only at h ⊢
  obtain ⟨d1, d2⟩ := rdH_loc u h
  obtain ⟨c1, c2⟩ := rdH_loc u d1
  obtain ⟨b1, b2⟩ := rn_loc u c1
  obtain ⟨a1, a2⟩ := rn_loc u b1
  refine ⟨a1, ?_⟩
  simp only [a2, b2, c2, d2]
theorem rdRu_loc {s : Rs} (u : List UInt8) (h : (rdRu s).2.2 = 0) : s.2 = 0 ∧ rdRu (s.1 ++ u, 0) = ((rdRu s).1, ((rdRu s).2.1 ++ u, 0)) := by
  unfold rdRu at h ⊢
  simp only at h ⊢
  by_cases hk : (rn 1 s).1 = 1
  · rw [if_pos hk] at h
    simp only at h
    obtain ⟨g1, g2⟩ := rdOuts_loc _ u h
    obtain ⟨f1, f2⟩ := rn_loc u g1
    obtain ⟨e1, e2⟩ := rdMk_loc u f1
    obtain ⟨d1, d2⟩ := rn_loc u e1
    obtain ⟨c1, c2⟩ := rn_loc u d1
    obtain ⟨b1, b2⟩ := rn_loc u c1
    obtain ⟨a1, a2⟩ := rn_loc u b1
    refine ⟨a1, ?_⟩
    simp only [a2, b2, c2, d2, e2, f2, g2, if_pos hk]
  · rw [if_neg hk] at h
    simp only at h
    obtain ⟨d1, d2⟩ := rn_loc u h
    obtain ⟨c1, c2⟩ := rn_loc u d1
    obtain ⟨b1, b2⟩ := rn_loc u c1
    obtain ⟨a1, a2⟩ := rn_loc u b1
    refine ⟨a1, ?_⟩
    simp only [a2, b2, c2, d2, if_neg hk]
theorem kRd_loc {k : Int} {s : Rs} (u : List UInt8) (h : (kRd k (s, false)).2.1.2 = 0) : s.2 = 0 ∧ (kRd k ((s.1 ++ u, 0), false)).2.1 = ((kRd k (s, false)).2.1.1 ++ u, 0) := by
  unfold kRd at h ⊢
  simp only at h ⊢
  split at h
  · rename_i c; rw [if_pos c, if_pos c]
    obtain ⟨a1, a2⟩ := rdRu_loc u h
    exact ⟨a1, by simp only [a2]⟩
  rename_i c; rw [if_neg c, if_neg c]; clear c
  split at h
  · rename_i c; rw [if_pos c, if_pos c]
    obtain ⟨a1, a2⟩ := rn_loc u h
    exact ⟨a1, by simp only [a2]⟩
  rename_i c; rw [if_neg c, if_neg c]; clear c
  split at h
  · rename_i c; rw [if_pos c, if_pos c]
    obtain ⟨b1, b2⟩ := rn_loc u h
    obtain ⟨a1, a2⟩ := rn_loc u b1
    exact ⟨a1, by simp only [a2, b2]⟩
  rename_i c; rw [if_neg c, if_neg c]; clear c
  split at h
  · rename_i c; rw [if_pos c, if_pos c]
    obtain ⟨a1, a2⟩ := rn_loc u h
    exact ⟨a1, by simp only [a2]⟩
  rename_i c; rw [if_neg c, if_neg c]; clear c
  split at h
  · rename_i c; rw [if_pos c, if_pos c]
    obtain ⟨b1, b2⟩ := rn_loc u h
    obtain ⟨a1, a2⟩ := rn_loc u b1
    exact ⟨a1, by simp only [a2, b2]⟩
  rename_i c; rw [if_neg c, if_neg c]; clear c
  split at h
  · rename_i c; rw [if_pos c, if_pos c]
    unfold rpF at h ⊢
    simp only at h ⊢
    have he : (rt s).2.2 = 0 := by
      split at h
      · assumption
      · exact h
    obtain ⟨a1, a2⟩ := rt_loc u he
    refine ⟨a1, ?_⟩
    simp only [a2, he, if_true]
  rename_i c; rw [if_neg c, if_neg c]; clear c
  split at h
  · rename_i c; rw [if_pos c, if_pos c]
    obtain ⟨b1, b2⟩ := rn_loc u h
    obtain ⟨a1, a2⟩ := rn_loc u b1
    exact ⟨a1, by simp only [a2, b2]⟩
  · rename_i c; rw [if_neg c, if_neg c]
    exact ⟨h, rfl⟩
/-- A part of an order's bytes ends too early. -/
theorem or_cut {o : Or6} (h : orB o = true) {t u : List UInt8} (ht : t ++ u = orBy o) (hu : u ≠ []) : orE t = 3 := by
  have hq := orQ_fore h []
  rw [List.append_nil, ← ht] at hq
  have hr := kRd_err (k := ((rn 1 (t, 0)).1 : Int)) (rn_err 1 (s := (t, 0)) (.inl rfl))
  have hne : (orQ t).2.1.2 ≠ 0 := by
    intro he
    unfold orQ at he hq
    obtain ⟨a1, a2⟩ := kRd_loc u he
    obtain ⟨b1, b2⟩ := rn_loc u a1
    simp only at b2
    rw [b2] at hq
    simp only at hq
    rw [hq] at a2
    have a3 := congrArg Prod.fst a2
    simp only at a3
    exact hu (List.append_eq_nil_iff.1 a3.symm).2
  unfold orE orE'
  rw [if_pos hne]
  exact hr.resolve_left hne
theorem flat_out (os : List Out4) : (os.flatMap outBy).length = 7 * os.length := by
  induction os with
  | nil => rfl
  | cons o os ih => rw [List.flatMap_cons, List.length_append, ih]; simp [outBy, be_len]; omega
theorem or_size {o : Or6} (h : orB o = true) : 1 ≤ (orBy o).length ∧ (orBy o).length ≤ 256 := by
  have h8 := orB_len h
  have hr : (ruBy o.r).length ≤ 100 := by
    unfold ruBy
    split
    · simp only [List.length_append, be_len, mkBy, flat_out, List.length_cons, List.length_nil]; omega
    · simp [be_len]
  have hp : (prBy o.p).length = 9 := by rw [prBy_eq, prB_len]
  unfold orBy
  constructor
  · simp [be_len]
  · rw [List.length_append, be_len]
    repeat' split
    all_goals try simp only [List.length_append, be_len, hp, List.length_nil]
    all_goals omega
end Go.Proofs.Ytfnnjaljnfphlaa
