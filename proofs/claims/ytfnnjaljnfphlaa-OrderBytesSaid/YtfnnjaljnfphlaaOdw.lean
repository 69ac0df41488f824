/- Orders: small functions: within, arg, outMay, whether all outputs may be. -/
import Derived.Test.YtfnnjaljnfphlaaOd0
import Derived.Test.YtfnnjaljnfphlaaL04
import Derived.BigQuiet
namespace Go.Proofs.Ytfnnjaljnfphlaa
open Go.RowKit
set_option maxRecDepth 100000
set_option maxHeartbeats 2000000
set_option linter.unusedSimpArgs false
set_option linter.unusedVariables false

theorem owithin (n a b : Int) (w : World) : Calls Try.prog 85 #[.int .i64 n, .int .i64 a, .int .i64 b] w fun e w' => e = .returned (.bool (inB n a b)) ∧ w = w' := by
  by_cases h : a ≤ n
  · have ho := Lib.hid (show inB n a b = decide (n ≤ b) by simp [inB, h])
    go_enter Try.func85, Try.ntmps85
    go_wp2
    go_ret
    exact ⟨ret_b ho.out.symm, rfl⟩
  · have ho := Lib.hid (show inB n a b = false by simp [inB, h])
    go_enter Try.func85, Try.ntmps85
    go_wp2
    go_ret
    exact ⟨ret_b ho.out.symm, rfl⟩
theorem orwithin (n a b : Int) (w : World) : Calls Try.prog 101 #[.int .i64 n, .int .i64 a, .int .i64 b] w fun e w' => e = .returned (.bool (inB n a b)) ∧ w = w' := by
  by_cases h : a ≤ n
  · have ho := Lib.hid (show inB n a b = decide (n ≤ b) by simp [inB, h])
    go_enter Try.func101, Try.ntmps101
    go_wp2
    go_ret
    exact ⟨ret_b ho.out.symm, rfl⟩
  · have ho := Lib.hid (show inB n a b = false by simp [inB, h])
    go_enter Try.func101, Try.ntmps101
    go_wp2
    go_ret
    exact ⟨ret_b ho.out.symm, rfl⟩
theorem oarg (b : Bool) (w : World) : Calls Try.prog 86 #[.bool b] w fun e w' => e = .returned (.int .i64 (erB b)) ∧ w = w' := by
  cases b
  all_goals
    go_enter Try.func86, Try.ntmps86
    go_wp2
    go_ret
    exact ⟨rfl, rfl⟩
theorem ois (b : Bool) (w : World) : Calls Try.prog 100 #[.bool b] w fun e w' => e = .returned (.int .i64 (erB b)) ∧ w = w' := by
  cases b
  all_goals
    go_enter Try.func100, Try.ntmps100
    go_wp2
    go_ret
    exact ⟨rfl, rfl⟩

/-- An output's cells. -/
def outC (o : Out4) : List Value := [.int .i64 o.1, .int .i64 o.2.1, .int .i64 o.2.2.1, .int .i64 o.2.2.2]
theorem outC_len (o : Out4) : (outC o).length = 4 := rfl
theorem outMay_any (p a b c : Int) (w : World) : Calls Try.prog 89 #[.agg #[.int .i64 p, .int .i64 a, .int .i64 b, .int .i64 c]] w fun e w' => e = .returned (.bool (outB4 (p, a, b, c))) ∧ Below w.heap.size w w' := by
  have K := Bk.new w 65 #[.int .i64 p, .int .i64 a, .int .i64 b, .int .i64 c]
  have hb := (Below.refl w.heap.size w).push (.cells #[.int .i64 p, .int .i64 a, .int .i64 b, .int .i64 c] 65)
  have i0 : ∀ w, (Instr.index 63 (.agg #[.int .i64 a, .int .i64 b, .int .i64 c]) (.int .i64 0)).run Try.prog w = .ok (.int .i64 a) w := fun _ => by kernel_rfl
  have i1 : ∀ w, (Instr.index 63 (.agg #[.int .i64 a, .int .i64 b, .int .i64 c]) (.int .i64 1)).run Try.prog w = .ok (.int .i64 b) w := fun _ => by kernel_rfl
  have i2 : ∀ w, (Instr.index 63 (.agg #[.int .i64 a, .int .i64 b, .int .i64 c]) (.int .i64 2)).run Try.prog w = .ok (.int .i64 c) w := fun _ => by kernel_rfl
  go_enter Try.func89, Try.ntmps89
  go_upto_region 1 with fail
  generalize w.alloc _ = w1 at K hb ⊢
  obtain ⟨c0, c1, c2, c3, f0⟩ := K.four
  go_wp2_with fail
  go_loopw [7] (fun i wr => ∃ k : Nat, k ≤ 3 ∧ i = .int .i64 k ∧ wr = w1 ∧ Hid ((0 < k → inB a (-1) 255 = true) ∧ (1 < k → inB b (-1) 255 = true) ∧ (2 < k → inB c (-1) 255 = true))) (fun i _ => 3 - (intOf i).toNat)
  case atStart => exact ⟨0, by omega, rfl, rfl, ⟨fun h => by omega, fun h => by omega, fun h => by omega⟩⟩
  case round =>
    obtain ⟨k, hk, rfl, rfl, H⟩ := hrel
    obtain rfl | rfl | rfl | rfl : k = 0 ∨ k = 1 ∨ k = 2 ∨ k = 3 := by omega
    · rcases Bool.eq_false_or_eq_true (inB a (-1) 255) with ha | ha
      · go_wp2_with (go_at_call 85; refine (owithin a (-1) 255 _).mono ?_; rintro e w2 ⟨rfl, rfl⟩; simp only [ha])
        go_roundw
        case rel => exact ⟨1, by omega, by go_num, trivial, ⟨fun _ => ha, fun h => by omega, fun h => by omega⟩⟩
        case measure => simp [intOf]
      · go_wp2_with (go_at_call 85; refine (owithin a (-1) 255 _).mono ?_; rintro e w2 ⟨rfl, rfl⟩; simp only [ha])
        go_ret
        exact ⟨ret_b (by simp [outB4, ha]), hb⟩
    · rcases Bool.eq_false_or_eq_true (inB b (-1) 255) with ha | ha
      · go_wp2_with (go_at_call 85; refine (owithin b (-1) 255 _).mono ?_; rintro e w2 ⟨rfl, rfl⟩; simp only [ha])
        go_roundw
        case rel => exact ⟨2, by omega, by go_num, trivial, ⟨fun _ => H.out.1 (by omega), fun _ => ha, fun h => by omega⟩⟩
        case measure => simp [intOf]
      · go_wp2_with (go_at_call 85; refine (owithin b (-1) 255 _).mono ?_; rintro e w2 ⟨rfl, rfl⟩; simp only [ha])
        go_ret
        exact ⟨ret_b (by simp [outB4, ha]), hb⟩
    · rcases Bool.eq_false_or_eq_true (inB c (-1) 255) with ha | ha
      · go_wp2_with (go_at_call 85; refine (owithin c (-1) 255 _).mono ?_; rintro e w2 ⟨rfl, rfl⟩; simp only [ha])
        go_roundw
        case rel => exact ⟨3, by omega, by go_num, trivial, ⟨fun _ => H.out.1 (by omega), fun _ => H.out.2.1 (by omega), fun _ => ha⟩⟩
        case measure => simp [intOf]
      · go_wp2_with (go_at_call 85; refine (owithin c (-1) 255 _).mono ?_; rintro e w2 ⟨rfl, rfl⟩; simp only [ha])
        go_ret
        exact ⟨ret_b (by simp [outB4, ha]), hb⟩
    · go_wp2_with (go_at_call 85; refine (owithin p 0 4 _).mono ?_; rintro e w2 ⟨rfl, rfl⟩)
      go_ret
      exact ⟨ret_b (by simp [outB4, H.out.1, H.out.2.1, H.out.2.2]), hb⟩
theorem outNot_any (p a b c : Int) (w : World) : Calls Try.prog 88 #[.agg #[.int .i64 p, .int .i64 a, .int .i64 b, .int .i64 c]] w fun e w' => e = .returned (.bool (!outB4 (p, a, b, c))) ∧ Below w.heap.size w w' := by
  have K := Bk.new w 65 #[.int .i64 p, .int .i64 a, .int .i64 b, .int .i64 c]
  have hb := (Below.refl w.heap.size w).push (.cells #[.int .i64 p, .int .i64 a, .int .i64 b, .int .i64 c] 65)
  go_enter Try.func88, Try.ntmps88
  go_upto_region 1 with fail
  generalize w.alloc _ = w1 at K hb ⊢
  obtain ⟨c0, c1, c2, c3, f0⟩ := K.four
  go_wp2_with fail
  refine (outMay_any p a b c _).mono ?_
  rintro e w2 ⟨rfl, hb2⟩
  go_wp2_with fail
  go_ret
  exact ⟨rfl, hb.next hb2⟩

/-- The slice value '.slice A n c' reads as the outputs l. -/
def Ou (w : World) (B : Nat) (A : Option Addr) (n : Nat) (l : List Out4) : Prop := Rd w B 4 A n (l.flatMap outC)
section
variable {w w' : World} {B B' n : Nat} {A : Option Addr} {l : List Out4}
theorem Ou.len (h : Ou w B A n l) : l.length = n := by
  have h1 := h.1
  have : (l.flatMap outC).length = l.length * 4 := by
    clear h h1
    induction l with
    | nil => rfl
    | cons x l ih => simp only [List.flatMap_cons, List.length_append, ih, List.length_cons, outC_len]; omega
  omega
theorem Ou.empty : Ou w B A 0 [] := Rd.empty
theorem Ou.below (h : Ou w B A n l) (hb : Below B w w') : Ou w' B A n l := Rd.below h hb
theorem Ou.more (h : Ou w B A n l) (hB : B ≤ B') : Ou w B' A n l := Rd.more h hB
theorem Ou.alloc (h : Ou w B A n l) (hB : B ≤ w.heap.size) (o : Obj) : Ou (w.alloc o) B A n l := Rd.alloc h hB o
theorem Ou.boxed (h : Ou w w.heap.size A n l) (o : Obj) : Ou (w.alloc o) (w.alloc o).heap.size A n l := (h.alloc (Nat.le_refl _) o).more (by simp)
theorem Ou.kept (h : Ou w w.heap.size A n l) (hb : Below w.heap.size w w') : Ou w' w'.heap.size A n l := (h.below hb).more hb.size
theorem outs_at {k : Nat} {o : Out4} {j : Nat} (h : l[k]? = some o) (hj : j < 4) : (l.flatMap outC)[4 * k + j]? = (outC o)[j]? := by
  induction l generalizing k with
  | nil => simp at h
  | cons x l ih =>
    rw [List.flatMap_cons]
    cases k with
    | zero =>
      simp only [List.getElem?_cons_zero, Option.some.injEq] at h
      subst h
      rw [List.getElem?_append_left (by rw [outC_len]; omega)]
      simp
    | succ k =>
      rw [List.getElem?_append_right (by rw [outC_len]; omega), outC_len, show 4 * (k + 1) + j - 4 = 4 * k + j by omega]
      exact ih (by simpa using h)
theorem Ou.at_ {k : Nat} (h : Ou w B A n l) (hk : k < n) : ∃ b off p x y z, A = some ⟨b, off, none⟩ ∧ b < B ∧ w.cell? ⟨b, off + k * 4, none⟩ = some (.int .i64 p) ∧ w.cell? ⟨b, off + k * 4 + 1, none⟩ = some (.int .i64 x) ∧
    w.cell? ⟨b, off + k * 4 + 2, none⟩ = some (.int .i64 y) ∧ w.cell? ⟨b, off + k * 4 + 3, none⟩ = some (.int .i64 z) ∧ Hid (l[k]? = some (p, x, y, z)) := by
  obtain ⟨b, off, e, hb, hc⟩ := h.2 (by omega)
  have hl : k < l.length := by rw [h.len]; exact hk
  have hx := List.getElem?_eq_getElem hl
  obtain ⟨⟨p, x, y, z⟩, ho⟩ : ∃ o, o = l[k] := ⟨_, rfl⟩
  rw [← ho] at hx
  have g := fun j (hj : j < 4) => outs_at hx hj
  refine ⟨b, off, p, x, y, z, e, hb, ?_, ?_, ?_, ?_, hx⟩
  · rw [show off + k * 4 = off + (4 * k + 0) by omega]; exact hc _ _ (by rw [g 0 (by omega)]; rfl)
  · rw [show off + k * 4 + 1 = off + (4 * k + 1) by omega]; exact hc _ _ (by rw [g 1 (by omega)]; rfl)
  · rw [show off + k * 4 + 2 = off + (4 * k + 2) by omega]; exact hc _ _ (by rw [g 2 (by omega)]; rfl)
  · rw [show off + k * 4 + 3 = off + (4 * k + 3) by omega]; exact hc _ _ (by rw [g 3 (by omega)]; rfl)
end

theorem oindex_any (A : Option Addr) (N c : Nat) (l : List Out4) (w : World) (hl : Ou w w.heap.size A N l) (hN : N ≤ 1000) :
    Calls Try.prog 123 #[.slice A N c, .func (.func 88) #[] #[]] w fun e w' => ∃ r : Int, e = .returned (.int .i64 r) ∧ Hid ((0 : Int) ≤ r ↔ l.any (fun o => !outB4 o) = true) ∧ Below w.heap.size w w' := by
  have hlen := Lib.hid hl.len
  go_enter Try.func123, Try.ntmps123
  go_wp2_with fail
  go_loopw [8] (fun i wr => ∃ k : Nat, k ≤ N ∧ i = .int .i64 k ∧ Below w.heap.size w wr ∧ Hid (∀ j x, j < k → l[j]? = some x → outB4 x = true)) (fun i _ => N - (intOf i).toNat)
  case atStart => exact ⟨0, by omega, rfl, Below.refl _ _, by intro j x hj; omega⟩
  case round =>
    obtain ⟨k, hk, rfl, hb, HNO⟩ := hrel
    by_cases hlt : k < N
    · obtain ⟨b, off, p, x, y, z, rfl, hbb, h0, h1, h2, h3, hxk⟩ := ((hl.below hb).more hb.size).at_ hlt
      have hk2 : (k : Int) < (N : Int) := by omega
      have hk3 : (0 : Int) ≤ (k : Int) := by omega
      rcases Bool.eq_false_or_eq_true (outB4 (p, x, y, z)) with ho | ho
      · go_wp2_with (go_at_call 88; refine (outNot_any _ _ _ _ _).mono ?_; rintro e w2 ⟨rfl, hb2⟩; simp only [ho]; have hb := hb.next hb2)
        go_roundw
        case rel =>
          refine ⟨k + 1, by omega, by go_num, hb, fun j u hj hu => ?_⟩
          by_cases hjk : j = k
          · subst hjk
            have := hxk.out
            rw [this] at hu
            injection hu with hu
            subst hu
            exact ho
          · exact HNO.out j u (by omega) hu
        case measure => simp [intOf]; omega
      · go_wp2_with (go_at_call 88; refine (outNot_any _ _ _ _ _).mono ?_; rintro e w2 ⟨rfl, hb2⟩; simp only [ho]; have hb := hb.next hb2)
        go_ret
        refine ⟨_, rfl, ?_, hb⟩
        have : l.any (fun o => !outB4 o) = true := List.any_eq_true.2 ⟨(p, x, y, z), List.mem_of_getElem? hxk.out, by simp [ho]⟩
        show _ ↔ _
        simp [this]
    · obtain rfl : k = N := by omega
      go_wp2
      go_ret
      refine ⟨_, rfl, ?_, hb⟩
      have : ¬ l.any (fun o => !outB4 o) = true := by
        intro h
        obtain ⟨x, hx, hox⟩ := List.any_eq_true.1 h
        obtain ⟨j, hj, hjx⟩ := List.getElem_of_mem hx
        have := HNO.out j x (by have := hlen.out; omega) (by rw [← hjx]; exact List.getElem?_eq_getElem hj)
        rw [this] at hox
        cases hox
      show _ ↔ _
      simp only [this]
      simp
theorem any_all (l : List Out4) : l.any (fun o => !outB4 o) = !(l.all outB4) := by
  induction l with
  | nil => rfl
  | cons x l ih => simp only [List.any_cons, List.all_cons, ih]; cases outB4 x <;> simp
theorem ocontains_any (A : Option Addr) (N c : Nat) (l : List Out4) (w : World) (hl : Ou w w.heap.size A N l) (hN : N ≤ 1000) :
    Calls Try.prog 87 #[.slice A N c, .func (.func 88) #[] #[]] w fun e w' => e = .returned (.bool (!(l.all outB4))) ∧ Below w.heap.size w w' := by
  go_enter Try.func87, Try.ntmps87
  go_wp2_with fail
  refine (oindex_any A N c l w hl hN).mono ?_
  rintro e w2 ⟨r, rfl, HR, hb⟩
  go_wp2_with fail
  go_ret
  refine ⟨ret_b ?_, hb⟩
  have h := HR.out
  rw [← any_all, Bool.eq_iff_iff, ← h]
  simp
end Go.Proofs.Ytfnnjaljnfphlaa
