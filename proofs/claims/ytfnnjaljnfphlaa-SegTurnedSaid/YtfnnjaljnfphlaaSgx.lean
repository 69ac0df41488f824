/- The sum: two frames that differ in one byte cannot both fit. -/
import Derived.Test.YtfnnjaljnfphlaaSpec
namespace Go.Proofs.Ytfnnjaljnfphlaa

theorem odd_xor (a : Nat) (h : a % 2 = 0) : (a ^^^ 4129) % 2 = 1 := by
  have := Nat.xor_mod_two_pow (a := a) (b := 4129) (n := 1)
  simp only [Nat.pow_one] at this
  rw [this, h]
  rfl
theorem bitS_inj {n m : Nat} (hn : n < 65536) (hm : m < 65536) (h : bitS n = bitS m) : n = m := by
  unfold bitS at h
  have en : n * 2 % 65536 % 2 = 0 := by omega
  have em : m * 2 % 65536 % 2 = 0 := by omega
  have on := odd_xor _ en
  have om := odd_xor _ em
  split at h <;> split at h
  · have h2 : n * 2 % 65536 = m * 2 % 65536 := by
      have := congrArg (· ^^^ 4129) h
      simpa [Nat.xor_assoc] using this
    omega
  · rw [h] at on; omega
  · rw [← h] at om; omega
  · omega
theorem itS_inj (k : Nat) : ∀ {n m : Nat}, n < 65536 → m < 65536 → itS k n = itS k m → n = m := by
  induction k with
  | zero => intro n m _ _ h; exact h
  | succ k ih => intro n m hn hm h; exact ih hn hm (bitS_inj (itS_lt k n hn) (itS_lt k m hm) h)
theorem byteS_state {n m : Nat} {c : UInt8} (hn : n < 65536) (hm : m < 65536) (h : byteS n c = byteS m c) : n = m := by
  have hc := byte_lt c
  have h2 := itS_inj 8 (xor16 hn (by omega)) (xor16 hm (by omega)) h
  have := congrArg (· ^^^ (c.toNat * 256)) h2
  simpa [Nat.xor_assoc] using this
theorem byteS_byte {n : Nat} {c d : UInt8} (hn : n < 65536) (h : byteS n c = byteS n d) : c = d := by
  have hc := byte_lt c
  have hd := byte_lt d
  have h2 := itS_inj 8 (xor16 hn (by omega)) (xor16 hn (by omega)) h
  have h3 := congrArg (n ^^^ ·) h2
  simp only [← Nat.xor_assoc, Nat.xor_self, Nat.zero_xor] at h3
  exact UInt8.toNat_inj.1 (by omega)
theorem fold_inj (l : List UInt8) : ∀ {n m : Nat}, n < 65536 → m < 65536 → l.foldl byteS n = l.foldl byteS m → n = m := by
  induction l with
  | nil => intro n m _ _ h; exact h
  | cons c l ih => intro n m hn hm h; exact byteS_state hn hm (ih (byteS_lt n c hn) (byteS_lt m c hm) h)
theorem crc_set {l : List UInt8} {i : Nat} {c : UInt8} (hi : i < l.length) (h : crc (l.set i c) = crc l) : l[i]? = some c := by
  have e1 : l.set i c = l.take i ++ c :: l.drop (i + 1) := List.set_eq_take_append_cons_drop .. |>.trans (by rw [if_pos hi])
  have e2 : l = l.take i ++ l[i] :: l.drop (i + 1) := by simp
  unfold crc at h
  rw [e1] at h
  conv at h => rhs; rw [e2]
  simp only [List.foldl_append, List.foldl_cons] at h
  have hl := fold_lt (l.take i) 65535 (by omega)
  have h2 := byteS_byte hl (fold_inj _ (byteS_lt _ _ hl) (byteS_lt _ _ hl) h)
  rw [h2]
  exact List.getElem?_eq_getElem hi
theorem num_pair {a b : UInt8} : num [a, b] = a.toNat * 256 + b.toNat := by simp [num]
theorem num_inj2 {l k : List UInt8} (hl : l.length = 2) (hk : k.length = 2) (h : num l = num k) : l = k := by
  match l, k, hl, hk with
  | [a, b], [c, d], _, _ =>
    rw [num_pair, num_pair] at h
    have h1 := byte_lt a
    have h2 := byte_lt b
    have h3 := byte_lt c
    have h4 := byte_lt d
    rw [UInt8.toNat_inj.1 (show a.toNat = c.toNat by omega), UInt8.toNat_inj.1 (show b.toNat = d.toNat by omega)]

/-- A frame that fits does not fit with one byte turned. -/
theorem turned_bad {l : List UInt8} {i : Nat} {c : UInt8} (hl : openB l = ((openB l).1, (openB l).2.1, 0)) (hi : i < l.length) (hc : l[i]? ≠ some c) : (openB (l.set i c)).2.2 = 30 := by
  unfold openB at hl ⊢
  simp only [List.length_set]
  split at hl
  · simp at hl
  · split at hl
    · simp at hl
    · split at hl
      · simp at hl
      · rename_i h1 h2 h3
        rw [if_neg h1, if_neg h2, if_pos]
        simp only [ne_eq, Decidable.not_not] at h3
        intro h
        by_cases hlt : i < l.length - 2
        · rw [List.drop_set_of_lt hlt, h3, List.take_set] at h
          have := crc_set (by rw [List.length_take]; omega) h.symm
          rw [List.getElem?_take, if_pos hlt] at this
          exact hc this
        · rw [List.take_set_of_le (by omega), ← h3] at h
          have h5 := num_inj2 (by simp; omega) (by simp; omega) h
          have h6 := congrArg (fun x => x[i - (l.length - 2)]?) h5
          simp only [List.getElem?_drop] at h6
          rw [show l.length - 2 + (i - (l.length - 2)) = i by omega, List.getElem?_set_self hi] at h6
          exact hc h6.symm
end Go.Proofs.Ytfnnjaljnfphlaa
