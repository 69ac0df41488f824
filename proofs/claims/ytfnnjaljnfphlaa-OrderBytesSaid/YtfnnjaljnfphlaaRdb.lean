/- The program's reader of bytes, once more: its bytes lie below a block that is named. -/
import Derived.Test.YtfnnjaljnfphlaaPpa
namespace Go.Proofs.Ytfnnjaljnfphlaa
open Go.RowKit
set_option maxRecDepth 100000
set_option maxHeartbeats 1000000
set_option linter.unusedSimpArgs false
set_option linter.unusedVariables false

/-- Block g is a reader whose state is s; its bytes lie below block B. -/
def RdB (t : TypeId) (w : World) (g B : Nat) (s : Rs) : Prop := ∃ A n c, n ≤ c ∧ Bk w g t #[.slice A n c, .int .i64 s.2] ∧ By w B A n s.1 ∧ B ≤ g
theorem RdB.rds {t : TypeId} {w : World} {g B : Nat} {s : Rs} (h : RdB t w g B s) : RdS t w g s := by
  obtain ⟨A, n, c, h1, h2, h3, h4⟩ := h
  exact ⟨A, n, c, h1, h2, h3.more h4⟩
theorem RdB.lt {t : TypeId} {w : World} {g B : Nat} {s : Rs} (h : RdB t w g B s) : g < w.heap.size := h.rds.lt
theorem RdB.below {t : TypeId} {w w' : World} {g B : Nat} {s : Rs} (h : RdB t w g B s) (hb : Below w.heap.size w w') : RdB t w' g B s := by
  obtain ⟨A, n, c, h1, h2, h3, h4⟩ := h
  have hg := h2.lt
  exact ⟨A, n, c, h1, h2.below hb hg, h3.below (hb.mono (by omega)), h4⟩
theorem RdB.set_other {t : TypeId} {w : World} {g B b : Nat} {s : Rs} (h : RdB t w g B s) (i : Nat) (u : Value) (hne : g ≠ b) (hb : B ≤ b) : RdB t (w.setCell ⟨b, i, none⟩ u) g B s := by
  obtain ⟨A, n, c, h1, h2, h3, h4⟩ := h
  exact ⟨A, n, c, h1, h2.far (p := ⟨b, i, none⟩) hne _, h3.setCell (p := ⟨b, i, none⟩) hb u, h4⟩
theorem RdB.bg {t : TypeId} {w : World} {g B : Nat} {s : Rs} (h : RdB t w g B s) : B ≤ g := by
  obtain ⟨A, n, c, h1, h2, h3, h4⟩ := h
  exact h4
theorem takeB (g B m : Nat) (s : Rs) (w : World) (hs : RdB 130 w g B s) (hm : m ≤ 1000000) :
    Calls Try.prog 111 #[.pointer (some ⟨g, 0, none⟩), .int .i64 (m : Int)] w fun e w' => ∃ A n c, e = .returned (.slice A n c) ∧ n ≤ c ∧ By w' B A n (tk m s).1 ∧ RdB 130 w' g B (tk m s).2 ∧ w.grownBy w' (some g) := by
  obtain ⟨A, n, c, hnc, hb, hl, hBg⟩ := hs
  obtain ⟨l, er⟩ := s
  have c0 : w.cell? ⟨g, 0, none⟩ = some (.slice A n c) := hb.cell 0
  have c1 : w.cell? ⟨g, 1, none⟩ = some (.int .i64 er) := hb.cell 1
  have f0 : w.frozen? ⟨g, 0, none⟩ = false := hb.frozen 0
  have f1 : w.frozen? ⟨g, 1, none⟩ = false := hb.frozen 1
  have HL := Lib.hid hl.len
  by_cases he : er = 0
  · subst he
    by_cases hlt : n < m
    · have ht := tk_short (m := m) (l := l) (by rw [HL.out]; exact hlt)
      have HT := Lib.hid ht
      clear ht
      go_enter Try.func111, Try.ntmps111
      go_wp2
      go_ret
      rw [HT.out]
      exact ⟨none, 0, 0, rfl, Nat.le_refl _, By.empty, ⟨none, 0, 0, Nat.le_refl _, by simpa using (hb.set_ 0 (.slice none 0 0)).set_ 1 (.int .i64 3), By.empty, hBg⟩, grown_tr (grown_set _ _ _ _) (grown_set _ _ _ _)⟩
    · have ht := tk_ok (m := m) (l := l) (by rw [HL.out]; omega)
      have HT := Lib.hid ht
      clear ht
      go_enter Try.func111, Try.ntmps111
      go_wp2
      · obtain rfl : c = m := by assumption
        go_ret
        rw [HT.out]
        exact ⟨A, c, c, rfl, Nat.le_refl _, (hl.setCell (p := ⟨g, 0, none⟩) hBg _).front (by omega), ⟨A, n - c, 0, by omega, by simpa using hb.set_ 0 (.slice A (n - c) 0), (hl.setCell (p := ⟨g, 0, none⟩) hBg _).cut_end (by omega) hnc, hBg⟩, grown_set _ _ _ _⟩
      · have hcm : ¬ c = m := by assumption
        go_ret
        rw [HT.out]
        exact ⟨A, m, c, rfl, by omega, (hl.setCell (p := ⟨g, 0, none⟩) hBg _).front (by omega), ⟨_, n - m, c - m, by omega, by simpa using hb.set_ 0 (.slice (A.map (fun x => x.add m)) (n - m) (c - m)), (hl.setCell (p := ⟨g, 0, none⟩) hBg _).cut_far (by omega) hnc hcm, hBg⟩, grown_set _ _ _ _⟩
  · have he2 : (er != 0) = true := by simpa using he
    have HE := Lib.hid he
    clear he
    go_enter Try.func111, Try.ntmps111
    go_wp2
    go_ret
    rw [tk_err HE.out]
    exact ⟨none, 0, 0, rfl, Nat.le_refl _, By.empty, ⟨A, n, c, hnc, hb, hl, hBg⟩, World.grownBy.refl w _⟩

theorem numB (g B m : Nat) (s : Rs) (w : World) (hs : RdB 130 w g B s) (hm : m = 1 ∨ m = 2 ∨ m = 4) :
    Calls Try.prog 71 #[.pointer (some ⟨g, 0, none⟩), .int .i64 (m : Int)] w fun e w' => e = .returned (.int .i64 (rn m s).1) ∧ RdB 130 w' g B (rn m s).2 ∧ w.grownBy w' (some g) := by
  have hs0 := hs
  obtain ⟨A, n, c, hnc, hb, hl, hBg⟩ := hs
  obtain ⟨l, er⟩ := s
  have c1 : w.cell? ⟨g, 1, none⟩ = some (.int .i64 er) := hb.cell 1
  have hm4 : m ≤ 4 := by omega
  have HM := Lib.hid hm
  clear hm
  have he : (er == 0) = true ∨ (er == 0) = false := by cases (er == 0) <;> simp
  have HT := Lib.hid (tk_len m (l, er))
  rcases he with he | he
  all_goals
    go_enter Try.func71, Try.ntmps71
    go_wp2_with (first | (go_at_call 105; refine (sized_any m _ HM.out).mono ?_; rintro e w1 ⟨rfl, rfl⟩) | (go_at_call 111; refine (takeB g B m (l, er) _ hs0 (by omega)).mono ?_; rintro e w1 ⟨A1, n1, c1, rfl, hnc1, hl1, hs1, hg1⟩))
    have hn4 : n1 ≤ 4 := by have := hl1.len; have := HT.out; omega
    go_loop [4, 31] (fun t i => ∃ k : Nat, k ≤ n1 ∧ i = .int .i64 k ∧ t = .int .i64 (num ((tk m (l, er)).1.take k))) (fun _ i => n1 - (intOf i).toNat)
    case atStart => exact ⟨0, by omega, rfl, rfl⟩
    case round =>
      obtain ⟨k, hk, rfl, rfl⟩ := hrel
      by_cases hlt : k < n1
      · obtain ⟨b, off, cc, rfl, hbb, hc, hck⟩ := hl1.at_ hlt
        go_wp2
        go_round
        case rel => exact ⟨k + 1, by omega, by go_num, val_i (by rw [num_go _ _ _ hck.out]; exact or_step _ _ (num_small _ (by rw [List.length_take]; omega)))⟩
        case measure => simp [intOf]; omega
      · obtain rfl : k = n1 := by omega
        have HL := Lib.hid hl1.len
        go_wp2
        go_ret
        exact ⟨ret_i (by rw [List.take_of_length_le (by rw [HL.out]; omega)]; rfl), hs1, hg1⟩

theorem rtextB (g B : Nat) (s : Rs) (w : World) (hs : RdB 130 w g B s) :
    Calls Try.prog 91 #[.pointer (some ⟨g, 0, none⟩)] w fun e w' => ∃ A n c, e = .returned (.slice A n c) ∧ OwnB w' w.heap.size A n c (rt s).1 ∧ RdB 130 w' g B (rt s).2 ∧ w.grownBy w' (some g) := by
  have H2 := Lib.hid (rn2_lt s)
  go_enter Try.func91, Try.ntmps91
  go_wp2_with (first | (go_at_call 71; refine (numB g B 2 s _ hs (by omega)).mono ?_; rintro e w1 ⟨rfl, hs1, hg1⟩) | (go_at_call 111; refine (takeB g B (rn 2 s).1 (rn 2 s).2 _ hs1 (by have := H2.out; omega)).mono ?_; rintro e w2 ⟨A2, n2, c2, rfl, hnc2, hl2, hs2, hg2⟩) | (go_at_call 106; refine (clone_any _ _ _ _ _ (hl2.more (by have := hs2.lt; have := hs2.bg; omega)) (by have h1 := hl2.len; have h2 := tk_len (rn 2 s).1 (rn 2 s).2; have h3 := H2.out; omega)).mono ?_; rintro e w3 ⟨v3, rfl, ho3, hb3⟩))
  go_ret
  obtain ⟨A', c', rfl, h3⟩ := own_of ho3
  have hg : w.grownBy w3 (some g) := grown_tr (grown_tr hg1 hg2) (grown_of_below hb3 _)
  have hz : w.heap.size ≤ w2.heap.size := (grown_tr hg1 hg2).size
  exact ⟨A', _, c', rfl, own_mono h3 hz, hs2.below hb3, hg⟩

theorem readB (A : Option Addr) (n c : Nat) (l : List UInt8) (w : World) (B : Nat) (hl : By w B A n l) (hc : n ≤ c) (hB : B ≤ w.heap.size) :
    Calls Try.prog 69 #[.slice A n c] w fun e w' => e = .returned (.pointer (some ⟨w.heap.size, 0, none⟩)) ∧ RdB 130 w' w.heap.size B (l, 0) ∧ Below w.heap.size w w' ∧ w'.heap.size = w.heap.size + 1 := by
  go_enter Try.func69, Try.ntmps69
  go_wp2
  go_ret
  exact ⟨rfl, ⟨A, n, c, hc, Bk.new w 130 _, hl.alloc hB _, hB⟩, (Below.refl _ w).alloc (Nat.le_refl _) _, by simp⟩
theorem err_any (g : Nat) (s : Rs) (w : World) (hs : RdS 130 w g s) :
    Calls Try.prog 79 #[.pointer (some ⟨g, 0, none⟩)] w fun e w' => e = .returned (.int .i64 s.2) ∧ w = w' := by
  obtain ⟨A, n, c, hnc, hb, hl⟩ := hs
  have c1 : w.cell? ⟨g, 1, none⟩ = some (.int .i64 s.2) := hb.cell 1
  have hq : ∀ w, (binOp .eql 90 (.pointer (some ⟨g, 0, none⟩)) (.pointer none)).run Try.prog w = .ok (.bool false) w := fun _ => by kernel_rfl
  go_enter Try.func79, Try.ntmps79
  go_wp2
  go_ret
  exact ⟨rfl, rfl⟩
end Go.Proofs.Ytfnnjaljnfphlaa
