/- Plain functions: the sum, numbers as bytes, frames. No program in sight. -/
import Derived.Laws.BitsAllLaws
import Derived.Laws.BitsLemmas
namespace Go.Proofs.Ytfnnjaljnfphlaa

/-- One bit of the sum. -/
def bitS (n : Nat) : Nat := if n / 32768 % 2 = 1 then (n * 2 % 65536) ^^^ 4129 else n * 2 % 65536
def itS : Nat → Nat → Nat
  | 0, n => n
  | k + 1, n => bitS (itS k n)
/-- One byte of the sum. -/
def byteS (n : Nat) (c : UInt8) : Nat := itS 8 (n ^^^ (c.toNat * 256))
/-- The sum. -/
def crc (l : List UInt8) : Nat := l.foldl byteS 65535

theorem xor16 {a b : Nat} (ha : a < 65536) (hb : b < 65536) : a ^^^ b < 65536 := Nat.xor_lt_two_pow (n := 16) ha hb
theorem bitS_lt (n : Nat) : bitS n < 65536 := by
  unfold bitS
  split
  · exact xor16 (by omega) (by omega)
  · omega
theorem itS_lt (k n : Nat) (h : n < 65536) : itS k n < 65536 := by
  cases k with
  | zero => exact h
  | succ k => exact bitS_lt _
theorem byte_lt (c : UInt8) : c.toNat < 256 := c.toNat_lt
theorem byteS_lt (n : Nat) (c : UInt8) (h : n < 65536) : byteS n c < 65536 := itS_lt _ _ (xor16 h (by have := byte_lt c; omega))
theorem crc_snoc (l : List UInt8) (c : UInt8) : crc (l ++ [c]) = byteS (crc l) c := by simp [crc]
theorem fold_lt (l : List UInt8) : ∀ n, n < 65536 → l.foldl byteS n < 65536 := by
  induction l with
  | nil => exact fun n h => h
  | cons c l ih => exact fun n h => ih _ (byteS_lt n c h)
theorem crc_lt (l : List UInt8) : crc l < 65536 := fold_lt l _ (by omega)

/-- A number's bytes, the greatest first. -/
def be : Nat → Nat → List UInt8
  | 0, _ => []
  | k + 1, x => UInt8.ofNat (x / 256 ^ k) :: be k x
theorem be_len (k x : Nat) : (be k x).length = k := by
  induction k with
  | zero => rfl
  | succ k ih => simp [be, ih]

/-- Bytes as a number. -/
def num (l : List UInt8) : Nat := l.foldl (fun n c => n * 256 + c.toNat) 0
theorem num_snoc (l : List UInt8) (c : UInt8) : num (l ++ [c]) = num l * 256 + c.toNat := by simp [num]
theorem num_fold_lt (l : List UInt8) : ∀ n, l.foldl (fun n c => n * 256 + c.toNat) n < (n + 1) * 256 ^ l.length := by
  induction l with
  | nil => intro n; simp
  | cons c l ih =>
    intro n
    have h := ih (n * 256 + c.toNat)
    have hc := byte_lt c
    have h2 : (n * 256 + c.toNat + 1) * 256 ^ l.length ≤ ((n + 1) * 256) * 256 ^ l.length := Nat.mul_le_mul_right _ (by omega)
    rw [List.foldl_cons, List.length_cons, Nat.pow_succ, Nat.mul_comm (256 ^ l.length) 256, ← Nat.mul_assoc]
    omega
theorem num_lt (l : List UInt8) : num l < 256 ^ l.length := by
  have := num_fold_lt l 0
  simpa [num] using this

/-- A frame: the kind, the body, the sum. -/
def sealB (k : Nat) (b : List UInt8) : List UInt8 := (UInt8.ofNat k :: b) ++ be 2 (crc (UInt8.ofNat k :: b))

/-- A reader: what is left, and what was wrong. -/
abbrev Rs := List UInt8 × Int
/-- Takes m bytes off. -/
def tk (m : Nat) (s : Rs) : List UInt8 × Rs := if s.2 ≠ 0 then ([], s) else if s.1.length < m then ([], ([], 3)) else (s.1.take m, (s.1.drop m, 0))
/-- Reads a number of m bytes. -/
def rn (m : Nat) (s : Rs) : Nat × Rs := (num (tk m s).1, (tk m s).2)
/-- Reads a text. -/
def rt (s : Rs) : List UInt8 × Rs := tk (rn 2 s).1 (rn 2 s).2
/-- What is wrong at the end. -/
def endE (s : Rs) : Int := if s.2 = 0 ∧ 0 < s.1.length then 4 else s.2
/-- What a frame is: its kind, its body, the error. -/
def openB (l : List UInt8) : Int × List UInt8 × Int :=
  if 512 < l.length then (0, [], 5) else if l.length < 3 then (0, [], 3)
  else if num (l.drop (l.length - 2)) ≠ crc (l.take (l.length - 2)) then (0, [], 30)
  else ((l.getD 0 0).toNat, (l.take (l.length - 2)).drop 1, 0)
theorem tk_len (m : Nat) (s : Rs) : (tk m s).1.length ≤ m := by
  unfold tk
  split
  · simp
  · split
    · simp
    · simp; omega
theorem tk_err {m : Nat} {s : Rs} (h : s.2 ≠ 0) : tk m s = ([], s) := by simp [tk, h]
theorem tk_short {m : Nat} {l : List UInt8} (h : l.length < m) : tk m (l, 0) = ([], ([], 3)) := by simp [tk, h]
theorem tk_ok {m : Nat} {l : List UInt8} (h : m ≤ l.length) : tk m (l, 0) = (l.take m, (l.drop m, 0)) := by simp [tk]; omega
end Go.Proofs.Ytfnnjaljnfphlaa
