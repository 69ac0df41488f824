/- Plain laws: what is read of bytes has those bytes; what has bytes is read of them. No program in sight. -/
import Derived.Test.YtfnnjaljnfphlaaSpec
namespace Go.Proofs.Ytfnnjaljnfphlaa
set_option linter.unusedSimpArgs false
set_option linter.unusedVariables false

theorem num_fold_add (l : List UInt8) : ∀ n, l.foldl (fun n c => n * 256 + c.toNat) n = n * 256 ^ l.length + num l := by
  induction l with
  | nil => intro n; simp [num]
  | cons c l ih =>
    intro n
    have h2 : num (c :: l) = c.toNat * 256 ^ l.length + num l := by
      have := ih (0 * 256 + c.toNat)
      simpa [num] using this
    rw [List.foldl_cons, ih, h2, List.length_cons, Nat.pow_succ, Nat.add_mul, Nat.mul_assoc, Nat.mul_comm 256, Nat.add_assoc]
theorem num_cons (c : UInt8) (l : List UInt8) : num (c :: l) = c.toNat * 256 ^ l.length + num l := by
  have := num_fold_add l (0 * 256 + c.toNat)
  simpa [num] using this
theorem num_nil : num [] = 0 := rfl
theorem num_be (k x : Nat) : num (be k x) = x % 256 ^ k := by
  induction k with
  | zero => simp [be, num_nil, Nat.mod_one]
  | succ k ih =>
    rw [be, num_cons, ih, be_len, Nat.pow_succ]
    have : (UInt8.ofNat (x / 256 ^ k)).toNat = x / 256 ^ k % 256 := by simp
    rw [this, Nat.mod_mul (x := x) (a := 256 ^ k) (b := 256), Nat.mul_comm, Nat.add_comm]
theorem num_be_lt {k x : Nat} (h : x < 256 ^ k) : num (be k x) = x := by rw [num_be, Nat.mod_eq_of_lt h]
theorem be_num (l : List UInt8) : be l.length (num l) = l := by
  have key : ∀ (l : List UInt8) (y : Nat), be l.length (y * 256 ^ l.length + num l) = l := by
    intro l
    induction l with
    | nil => intro y; rfl
    | cons c l ih =>
      intro y
      have e : y * 256 ^ (c :: l).length + num (c :: l) = (y * 256 + c.toNat) * 256 ^ l.length + num l := by
        rw [num_cons, List.length_cons, Nat.pow_succ, Nat.add_mul, Nat.mul_assoc y 256, Nat.mul_comm 256, Nat.add_assoc]
      rw [e, List.length_cons, be, ih]
      have hp : 0 < 256 ^ l.length := Nat.pow_pos (by omega)
      rw [Nat.mul_comm _ (256 ^ l.length), Nat.mul_add_div hp, Nat.div_eq_of_lt (num_lt l), Nat.add_zero]
      have hc := byte_lt c
      congr 1
      apply UInt8.toNat_inj.1
      simp
  simpa using key l 0

theorem rn_back {m : Nat} {s : Rs} (h : (rn m s).2.2 = 0) : s.2 = 0 ∧ s.1 = be m (rn m s).1 ++ (rn m s).2.1 ∧ (rn m s).1 < 256 ^ m := by
  obtain ⟨l, e⟩ := s
  by_cases he : e = 0
  · subst he
    by_cases hm : m ≤ l.length
    · have h2 := tk_ok hm
      have h3 : (l.take m).length = m := by simp; omega
      refine ⟨rfl, ?_, ?_⟩
      · unfold rn; rw [h2]
        show l = be m (num (l.take m)) ++ l.drop m
        have := be_num (l.take m)
        rw [h3] at this
        rw [this, List.take_append_drop]
      · unfold rn; rw [h2]
        have := num_lt (l.take m)
        rwa [h3] at this
    · unfold rn at h
      rw [tk_short (by omega)] at h
      exact absurd h (by decide)
  · unfold rn at h
    rw [tk_err (by simpa using he)] at h
    exact absurd h he
theorem rn_fore {m x : Nat} (hx : x < 256 ^ m) (r : List UInt8) : rn m (be m x ++ r, 0) = (x, (r, 0)) := by
  unfold rn
  rw [tk_ok (by simp [be_len])]
  have h1 : (be m x ++ r).take m = be m x := by rw [List.take_append_of_le_length (by simp [be_len]), List.take_of_length_le (by simp [be_len])]
  have h2 : (be m x ++ r).drop m = r := by rw [List.drop_append_of_le_length (by simp [be_len]), List.drop_of_length_le (by simp [be_len]), List.nil_append]
  rw [h1, h2]
  show (num (be m x), (r, (0 : Int))) = _
  rw [num_be_lt hx]
theorem tk_back {m : Nat} {s : Rs} (h : (tk m s).2.2 = 0) : s.2 = 0 ∧ s.1 = (tk m s).1 ++ (tk m s).2.1 ∧ (tk m s).1.length = m := by
  obtain ⟨l, e⟩ := s
  by_cases he : e = 0
  · subst he
    by_cases hm : m ≤ l.length
    · rw [tk_ok hm]
      exact ⟨rfl, (List.take_append_drop m l).symm, by simp; omega⟩
    · rw [tk_short (by omega)] at h
      exact absurd h (by decide)
  · rw [tk_err (by simpa using he)] at h
    exact absurd h he
theorem rt_back {s : Rs} (h : (rt s).2.2 = 0) : s.2 = 0 ∧ s.1 = be 2 (rt s).1.length ++ ((rt s).1 ++ (rt s).2.1) ∧ (rt s).1.length < 65536 := by
  unfold rt at h ⊢
  obtain ⟨h1, h2, h3⟩ := tk_back h
  obtain ⟨g1, g2, g3⟩ := rn_back h1
  rw [h3]
  exact ⟨g1, by rw [← h2]; exact g2, by simpa using g3⟩
theorem rt_fore {t r : List UInt8} (ht : t.length < 65536) : rt (be 2 t.length ++ (t ++ r), 0) = (t, (r, 0)) := by
  unfold rt
  rw [rn_fore (by simpa using ht)]
  rw [tk_ok (by simp)]
  simp
theorem end_ok {s : Rs} : endE s = 0 ↔ s.2 = 0 ∧ s.1 = [] := by
  obtain ⟨l, e⟩ := s
  unfold endE
  by_cases h : e = 0
  · subst h
    cases l <;> simp
  · simp [h]

theorem open_back {l : List UInt8} {k : Int} {body : List UInt8} (h : openB l = (k, body, 0)) : ∃ c : UInt8, k = (c.toNat : Int) ∧ l = sealB c.toNat body ∧ body.length ≤ 509 := by
  unfold openB at h
  split at h
  · simp at h
  · split at h
    · simp at h
    · split at h
      · simp at h
      · rename_i h5 h3 hs
        injection h with hk h
        injection h with hb _
        have hsum : num (l.drop (l.length - 2)) = crc (l.take (l.length - 2)) := by omega
        obtain ⟨c, t, rfl⟩ : ∃ c t, l = c :: t := by
          cases l with
          | nil => simp at h3
          | cons c t => exact ⟨c, t, rfl⟩
        simp only [List.length_cons] at *
        have hfront : (c :: t).take (t.length + 1 - 2) = c :: body := by
          rw [← hb]
          have : t.length + 1 - 2 = (t.length - 2) + 1 := by omega
          rw [this]
          simp
        refine ⟨c, by simpa using hk.symm, ?_, ?_⟩
        · rw [sealB]
          have hc : UInt8.ofNat c.toNat = c := by simp
          rw [hc]
          have h2 : ((c :: t).drop (t.length + 1 - 2)).length = 2 := by simp; omega
          have := be_num ((c :: t).drop (t.length + 1 - 2))
          rw [h2, hsum, hfront] at this
          rw [this, ← hfront, List.take_append_drop]
        · have := congrArg List.length hfront
          simp at this
          omega
theorem open_fore {k : Nat} (hk : k < 256) {b : List UInt8} (hb : b.length ≤ 509) : openB (sealB k b) = ((k : Int), b, 0) := by
  have hl : (sealB k b).length = b.length + 3 := by simp [sealB, be_len]
  have hw : crc (UInt8.ofNat k :: b) < 256 ^ 2 := by simpa using crc_lt _
  have hd : (sealB k b).drop (b.length + 3 - 2) = be 2 (crc (UInt8.ofNat k :: b)) := by
    unfold sealB
    rw [List.drop_append_of_le_length (by simp), List.drop_of_length_le (by simp), List.nil_append]
  have ht : (sealB k b).take (b.length + 3 - 2) = UInt8.ofNat k :: b := by
    unfold sealB
    rw [List.take_append_of_le_length (by simp), List.take_of_length_le (by simp)]
  unfold openB
  rw [hl, if_neg (by omega), if_neg (by omega), hd, ht, num_be_lt hw, if_neg (by simp)]
  simp [sealB]
  omega
end Go.Proofs.Ytfnnjaljnfphlaa
