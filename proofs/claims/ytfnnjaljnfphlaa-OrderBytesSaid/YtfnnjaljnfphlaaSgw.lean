/- seg: what a kind has; whether numbers are within. -/
import Derived.Test.YtfnnjaljnfphlaaL04
import Derived.BigQuiet
namespace Go.Proofs.Ytfnnjaljnfphlaa
open Go.RowKit
set_option maxRecDepth 100000
set_option maxHeartbeats 2000000
set_option linter.unusedSimpArgs false
set_option linter.unusedVariables false

/-- The bits of a kind. -/
def hasB (k : Int) : Int := if k = 1 then 32 else if k = 2 then 66 else if k = 3 then 35 else if k = 4 then 105 else if k = 5 then 117 else 0
def hasI (k : Int) : Bool := decide (1 ≤ k ∧ k ≤ 5)
theorem has_any (k : Int) (w : World) : Calls Try.prog 63 #[.int .i64 k] w fun e w' => e = .returned (.tuple #[.int .i64 (hasB k), .bool (hasI k)]) ∧ w = w' := by
  by_cases h : 1 ≤ k ∧ k ≤ 5
  · obtain rfl | rfl | rfl | rfl | rfl : k = 1 ∨ k = 2 ∨ k = 3 ∨ k = 4 ∨ k = 5 := by omega
    all_goals
      go_enter Try.func63, Try.ntmps63
      go_wp2
      go_ret2
      exact ⟨rfl, rfl⟩
  · have e1 : (k == 1) = false := by simp; omega
    have e2 : (k == 2) = false := by simp; omega
    have e3 : (k == 3) = false := by simp; omega
    have e4 : (k == 4) = false := by simp; omega
    have e5 : (k == 5) = false := by simp; omega
    have hB := Lib.hid (show hasB k = 0 by unfold hasB; simp at e1 e2 e3 e4 e5; simp [e1, e2, e3, e4, e5])
    have hI := Lib.hid (show hasI k = false by simpa [hasI] using h)
    clear h
    go_enter Try.func63, Try.ntmps63
    go_wp2
    go_ret2
    rw [hB.out, hI.out]
    exact ⟨rfl, rfl⟩

/-- Whether a number is out. -/
def outB (m x : Int) : Bool := decide (x < 0 ∨ m < x)
theorem within1_any (x m : Int) (g : Nat) (w : World) (hg : w.cell? ⟨g, 0, none⟩ = some (.int .i64 m)) :
    Calls Try.prog 109 #[.int .i64 x, .pointer (some ⟨g, 0, none⟩)] w fun e w' => e = .returned (.bool (outB m x)) ∧ w = w' := by
  by_cases h : x < 0
  · have hd : decide (x < 0) = true := by simpa using h
    have ho := Lib.hid (show outB m x = true by simp [outB, h])
    go_enter Try.func109, Try.ntmps109
    go_wp2
    go_ret
    exact ⟨ret_b ho.out.symm, rfl⟩
  · have hd : decide (x < 0) = false := by simpa using h
    have ho := Lib.hid (show outB m x = decide (m < x) by simp [outB, h])
    go_enter Try.func109, Try.ntmps109
    go_wp2
    go_ret
    exact ⟨ret_b ho.out.symm, rfl⟩

/-- Where the first number is that is out; or -1. -/
def idx (m : Int) (l : List Int) (k : Nat) : Int := if (l.drop k).any (outB m) then ((k + (l.drop k).findIdx (outB m) : Nat) : Int) else -1
theorem index_any (A : Option Addr) (N c g : Nat) (m : Int) (l : List Int) (w : World) (hl : In w w.heap.size A N l) (hg : w.cell? ⟨g, 0, none⟩ = some (.int .i64 m)) (hN : N ≤ 1000) :
    Calls Try.prog 126 #[.slice A N c, .func (.func 109) #[] #[.pointer (some ⟨g, 0, none⟩)]] w fun e w' => (∃ r : Int, e = .returned (.int .i64 r) ∧ ((0 : Int) ≤ r ↔ l.any (outB m) = true)) ∧ w = w' := by
  have hlen := Lib.hid hl.len
  go_enter Try.func126, Try.ntmps126
  go_wp2_with fail
  go_loopw [8] (fun i wr => ∃ k : Nat, k ≤ N ∧ i = .int .i64 k ∧ wr = w ∧ (∀ j x, j < k → l[j]? = some x → outB m x = false)) (fun i _ => N - (intOf i).toNat)
  case atStart => exact ⟨0, by omega, rfl, rfl, by intro j x hj; omega⟩
  case round =>
    obtain ⟨k, hk, rfl, rfl, hno⟩ := hrel
    have HNO := Lib.hid hno
    clear hno
    by_cases hlt : k < N
    · obtain ⟨b, off, x, rfl, hb, hx, hxk⟩ := hl.at_ hlt
      have hk2 : (k : Int) < (N : Int) := by omega
      have hk3 : (0 : Int) ≤ (k : Int) := by omega
      have ho : outB m x = true ∨ outB m x = false := by cases outB m x <;> simp
      rcases ho with ho | ho
      · go_wp2_with (go_at_call 109; refine (within1_any _ _ _ _ hg).mono ?_; rintro e w2 ⟨rfl, rfl⟩; simp only [ho])
        go_ret
        refine ⟨⟨_, rfl, ?_⟩, rfl⟩
        have : l.any (outB m) = true := List.any_eq_true.2 ⟨x, List.mem_of_getElem? hxk.out, ho⟩
        simp [this]
      · go_wp2_with (go_at_call 109; refine (within1_any _ _ _ _ hg).mono ?_; rintro e w2 ⟨rfl, rfl⟩; simp only [ho])
        go_roundw
        case rel =>
          refine ⟨k + 1, by omega, by go_num, trivial, fun j y hj hy => ?_⟩
          by_cases hjk : j = k
          · subst hjk
            have := hxk.out
            rw [this] at hy
            injection hy with hy
            subst hy
            exact ho
          · exact HNO.out j y (by omega) hy
        case measure => simp [intOf]; omega
    · obtain rfl : k = N := by omega
      go_wp2
      go_ret
      refine ⟨⟨_, rfl, ?_⟩, rfl⟩
      have : ¬ l.any (outB m) = true := by
        intro h
        obtain ⟨x, hx, hox⟩ := List.any_eq_true.1 h
        obtain ⟨j, hj, hjx⟩ := List.getElem_of_mem hx
        have := HNO.out j x (by have := hlen.out; omega) (by rw [← hjx]; exact List.getElem?_eq_getElem hj)
        rw [this] at hox
        cases hox
      simp only [this]
      simp
theorem contains_any (A : Option Addr) (N c g : Nat) (m : Int) (l : List Int) (w : World) (hl : In w w.heap.size A N l) (hg : w.cell? ⟨g, 0, none⟩ = some (.int .i64 m)) (hN : N ≤ 1000) :
    Calls Try.prog 108 #[.slice A N c, .func (.func 109) #[] #[.pointer (some ⟨g, 0, none⟩)]] w fun e w' => e = .returned (.bool (l.any (outB m))) ∧ w = w' := by
  have H := index_any A N c g m l w hl hg hN
  go_enter Try.func108, Try.ntmps108
  go_wp2_with (go_at_call 126; refine H.mono ?_; rintro e w2 ⟨⟨r, rfl, hr⟩, rfl⟩; have HR := Lib.hid hr; clear hr)
  go_ret
  refine ⟨ret_b ?_, rfl⟩
  rw [Bool.eq_iff_iff, ← HR.out]
  simp
theorem within_any (m : Int) (A : Option Addr) (N c : Nat) (l : List Int) (w : World) (hl : In w w.heap.size A N l) (hN : N ≤ 1000) :
    Calls Try.prog 64 #[.int .i64 m, .slice A N c] w fun e w' => e = .returned (.bool (!(l.any (outB m)))) ∧ w' = w.alloc (.cells #[.int .i64 m] 3) := by
  have hmf : ∀ (fn : Fn) (first cap : Array Value) (w : World), (Instr.makeFunc fn first cap).run Try.prog w = .ok (.func fn first cap) w := fun _ _ _ _ => rfl
  have H := contains_any A N c w.heap.size m l (w.alloc (.cells #[.int .i64 m] 3)) (Rd.more (Rd.alloc hl (Nat.le_refl _) _) (by simp)) (Bk.new w 3 #[.int .i64 m]).one.1 hN
  go_enter Try.func64, Try.ntmps64
  go_wp2_with (go_at_call 108; refine H.mono ?_; rintro e w2 ⟨rfl, rfl⟩)
  go_ret
  exact ⟨rfl, rfl⟩
/-- The reference's. -/
theorem rwithin_any (x m : Int) (w : World) : Calls Try.prog 65 #[.int .i64 x, .int .i64 m] w fun e w' => e = .returned (.bool (!(outB m x))) ∧ w = w' := by
  by_cases h : 0 ≤ x
  · have ho := Lib.hid (show (!(outB m x)) = decide (x ≤ m) by rw [Bool.eq_iff_iff]; simp [outB]; omega)
    go_enter Try.func65, Try.ntmps65
    go_wp2
    go_ret
    exact ⟨ret_b ho.out.symm, rfl⟩
  · have ho := Lib.hid (show (!(outB m x)) = false by simp [outB]; omega)
    go_enter Try.func65, Try.ntmps65
    go_wp2
    go_ret
    exact ⟨ret_b ho.out.symm, rfl⟩
end Go.Proofs.Ytfnnjaljnfphlaa
