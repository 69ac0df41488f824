/- Contracts of the reference's reader: Read, Num, Text, End, Open. -/
import Derived.Test.YtfnnjaljnfphlaaR01
namespace Go.Proofs.Ytfnnjaljnfphlaa
open Go.RowKit
set_option maxRecDepth 100000
set_option maxHeartbeats 1000000

theorem rread_any (A : Option Addr) (n c : Nat) (l : List UInt8) (w : World) (hl : By w w.heap.size A n l) (hn : n ≤ 140737488355328) :
    Calls Try.prog 93 #[.slice A n c] w fun e w' => ∃ g, e = .returned (.pointer (some ⟨g, 0, none⟩)) ∧ RdS 140 w' g (l, 0) ∧ w.heap.size ≤ g ∧ Below w.heap.size w w' := by
  go_enter Try.func93, Try.ntmps93
  go_wp2_with (first | (go_at_call 24; refine (copy_any _ _ _ _ _ _ hl hn).mono ?_; rintro e w1 ⟨A1, N1, c1, rfl, hO, hb⟩))
  go_ret
  exact ⟨w1.heap.size, rfl, RdS.new 140 hO.by_ hO.cap, hb.size, hb.alloc hb.size _⟩

theorem rnum_ok {m : Nat} {l : List UInt8} (h : m ≤ l.length) : rn m (l, 0) = (num (l.take m), (l.drop m, 0)) := by unfold rn; rw [tk_ok h]
theorem rnum_short {m : Nat} {l : List UInt8} (h : l.length < m) : rn m (l, 0) = (0, ([], 3)) := by unfold rn; rw [tk_short h]; rfl
theorem rnum_err {m : Nat} {s : Rs} (h : s.2 ≠ 0) : rn m s = (0, s) := by unfold rn; rw [tk_err h]; rfl

theorem rnum_any (g m : Nat) (s : Rs) (w : World) (hs : RdS 140 w g s) (hm : m = 1 ∨ m = 2 ∨ m = 4) :
    Calls Try.prog 94 #[.pointer (some ⟨g, 0, none⟩), .int .i64 (m : Int)] w fun e w' => e = .returned (.int .i64 (rn m s).1) ∧ RdS 140 w' g (rn m s).2 ∧ w.grownBy w' (some g) := by
  obtain ⟨A, n, c, hnc, hb, hl⟩ := hs
  obtain ⟨l, er⟩ := s
  have c0 : w.cell? ⟨g, 0, none⟩ = some (.slice A n c) := hb.cell 0
  have c1 : w.cell? ⟨g, 1, none⟩ = some (.int .i64 er) := hb.cell 1
  have f0 : w.frozen? ⟨g, 0, none⟩ = false := hb.frozen 0
  have f1 : w.frozen? ⟨g, 1, none⟩ = false := hb.frozen 1
  have HL := Lib.hid hl.len
  by_cases he : er = 0
  · subst he
    have hm4 : m ≤ 4 := by omega
    have HM := Lib.hid hm
    clear hm
    by_cases hlt : n < m
    · have HT := Lib.hid (rnum_short (m := m) (l := l) (by rw [HL.out]; exact hlt))
      go_enter Try.func94, Try.ntmps94
      go_upto_region 3 with fail
      go_cut [21] (fun s wx => s = .bool false ∧ w = wx)
      case first =>
        rcases HM.out with rfl | rfl | rfl
        all_goals
          go_wp2_with fail
          go_meet
          exact ⟨rfl, rfl⟩
      case rest =>
        obtain ⟨rfl, rfl⟩ := hcut
        go_wp2
        go_ret
        rw [HT.out]
        refine ⟨rfl, ⟨none, 0, 0, Nat.le_refl _, ?_, By.empty⟩, grown_tr (grown_set _ _ _ _) (grown_set _ _ _ _)⟩
        simpa using (hb.set_ 1 (.int .i64 3)).set_ 0 (.slice none 0 0)
    · have HT := Lib.hid (rnum_ok (m := m) (l := l) (by rw [HL.out]; omega))
      go_enter Try.func94, Try.ntmps94
      go_upto_region 3 with fail
      go_cut [21] (fun s wx => s = .bool false ∧ w = wx)
      case first =>
        rcases HM.out with rfl | rfl | rfl
        all_goals
          go_wp2_with fail
          go_meet
          exact ⟨rfl, rfl⟩
      case rest =>
        obtain ⟨rfl, rfl⟩ := hcut
        go_wp2
        go_loop [5, 6] (fun t i => ∃ k : Nat, k ≤ m ∧ i = .int .i64 k ∧ t = .int .i64 (num (l.take k))) (fun _ i => m - (intOf i).toNat)
        case atStart => exact ⟨0, by omega, rfl, rfl⟩
        case round =>
          obtain ⟨k, hk, rfl, rfl⟩ := hrel
          by_cases hlt : k < m
          · obtain ⟨b, off, cc, rfl, hbb, hc, hck⟩ := hl.at_ (k := k) (by omega)
            have hns := num_small (l.take k) (by rw [List.length_take]; omega)
            obtain ⟨X, hX⟩ : ∃ X, num (l.take k) = X := ⟨_, rfl⟩
            rw [hX] at hns ⊢
            have HX := Lib.hid hX
            clear hX
            have hns2 : (X : Int) ≤ 16777215 := by omega
            clear hns
            have hcl : (cc.toNat : Int) ≤ 255 := by have := byte_lt cc; omega
            go_wp2
            go_round
            case rel => exact ⟨k + 1, by omega, by go_num, val_i (by rw [num_go _ _ _ hck.out, HX.out]; omega)⟩
            case measure => simp [intOf]; omega
          · obtain rfl : k = m := by omega
            go_wp2
            · obtain rfl : c = k := by assumption
              go_ret
              rw [HT.out]
              exact ⟨rfl, ⟨A, n - c, 0, by omega, by simpa using hb.set_ 0 (.slice A (n - c) 0), (hl.setCell (p := ⟨g, 0, none⟩) (Nat.le_refl _) _).cut_end (by omega) hnc⟩, grown_set _ _ _ _⟩
            · have hcm : ¬ c = k := by assumption
              go_ret
              rw [HT.out]
              exact ⟨rfl, ⟨_, n - k, c - k, by omega, by simpa using hb.set_ 0 (.slice (A.map (fun x => x.add k)) (n - k) (c - k)), (hl.setCell (p := ⟨g, 0, none⟩) (Nat.le_refl _) _).cut_far (by omega) hnc hcm⟩, grown_set _ _ _ _⟩
  · have he2 : (er != 0) = true := by simpa using he
    have HE := Lib.hid he
    clear he
    go_enter Try.func94, Try.ntmps94
    go_wp2
    go_ret
    rw [rnum_err HE.out]
    exact ⟨rfl, ⟨A, n, c, hnc, hb, hl⟩, World.grownBy.refl w _⟩

theorem rend_any (g : Nat) (s : Rs) (w : World) (hs : RdS 140 w g s) :
    Calls Try.prog 96 #[.pointer (some ⟨g, 0, none⟩)] w fun e w' => e = .returned (.int .i64 (endE s)) ∧ w = w' := by
  obtain ⟨A, n, c, hnc, hb, hl⟩ := hs
  obtain ⟨l, er⟩ := s
  have c0 : w.cell? ⟨g, 0, none⟩ = some (.slice A n c) := hb.cell 0
  have c1 : w.cell? ⟨g, 1, none⟩ = some (.int .i64 er) := hb.cell 1
  have HE := Lib.hid (show endE (l, er) = if er = 0 ∧ 0 < n then 4 else er by simp [endE, hl.len])
  by_cases he : er = 0
  · subst he
    by_cases hn : 0 < n
    · go_enter Try.func96, Try.ntmps96
      go_wp2
      go_ret
      exact ⟨ret_i (by rw [HE.out, if_pos ⟨trivial, hn⟩]), rfl⟩
    · go_enter Try.func96, Try.ntmps96
      go_wp2
      go_ret
      exact ⟨ret_i (by rw [HE.out, if_neg (by omega)]), rfl⟩
  · have he2 : (er == 0) = false := by simpa using he
    have H := Lib.hid he
    clear he
    go_enter Try.func96, Try.ntmps96
    go_wp2
    go_ret
    exact ⟨ret_i (by rw [HE.out, if_neg (fun h => H.out h.1)]), rfl⟩

theorem rrtext_any (g : Nat) (s : Rs) (w : World) (hs : RdS 140 w g s) :
    Calls Try.prog 95 #[.pointer (some ⟨g, 0, none⟩)] w fun e w' => ∃ A n c, e = .returned (.slice A n c) ∧ OwnB w' w.heap.size A n c (rt s).1 ∧ RdS 140 w' g (rt s).2 ∧ w.grownBy w' (some g) := by
  have HN := Lib.hid (rn2_lt s)
  have HRT := Lib.hid (show rt s = tk (rn 2 s).1 (rn 2 s).2 from rfl)
  go_enter Try.func95, Try.ntmps95
  go_upto_region 2 with (first | (go_at_call 94; refine (rnum_any g 2 s _ hs (by omega)).mono ?_; rintro e w1 ⟨rfl, hs1, hg1⟩))
  obtain ⟨X, hX⟩ : ∃ X, rn 2 s = X := ⟨_, rfl⟩
  rw [hX] at HN HRT hs1 ⊢
  clear hX
  obtain ⟨m, l, er⟩ := X
  simp only at HN HRT hs1 ⊢
  have hz := hg1.size
  obtain ⟨A, n, c, hnc, hb, hl⟩ := hs1
  simp only at hb hl
  have c0 : w1.cell? ⟨g, 0, none⟩ = some (.slice A n c) := hb.cell 0
  have c1 : w1.cell? ⟨g, 1, none⟩ = some (.int .i64 er) := hb.cell 1
  have f0 : w1.frozen? ⟨g, 0, none⟩ = false := hb.frozen 0
  have f1 : w1.frozen? ⟨g, 1, none⟩ = false := hb.frozen 1
  have HL := Lib.hid hl.len
  have hm : m ≤ 65535 := HN.out
  by_cases he : er = 0
  · subst he
    by_cases hlt : n < m
    · have HT := Lib.hid (tk_short (m := m) (l := l) (by rw [HL.out]; exact hlt))
      go_wp2
      go_ret
      rw [HRT.out, HT.out]
      exact ⟨none, 0, 0, rfl, World.ownsRow_nil _ _ _ _, ⟨none, 0, 0, Nat.le_refl _, by simpa using (hb.set_ 1 (.int .i64 3)).set_ 0 (.slice none 0 0), By.empty⟩, grown_tr hg1 (grown_tr (grown_set _ _ _ _) (grown_set _ _ _ _))⟩
    · have HT := Lib.hid (tk_ok (m := m) (l := l) (by rw [HL.out]; omega))
      go_wp2_with (first | (go_at_call 24; refine (copy_any _ _ _ _ _ _ (hl.front (k := m) (by omega)) (by omega)).mono ?_; rintro e w2 ⟨A2, N2, c2, rfl, hO2, hb2⟩; have hB2 : Bk w2 g 140 #[.slice A n c, .int .i64 0] := hb.below hb2 hb.lt; have d0 : w2.cell? ⟨g, 0, none⟩ = some (.slice A n c) := hB2.cell 0; have e0 : w2.frozen? ⟨g, 0, none⟩ = false := hB2.frozen 0))
      · obtain rfl : c = m := by assumption
        go_ret
        rw [HRT.out, HT.out]
        have hlw : By w2 g A n l := hl.below (hb2.mono (by have := hb.lt; omega))
        exact ⟨A2, N2, c2, rfl, own_mono (ownsRow_setCell_below (a := ⟨g, 0, none⟩) hO2 hb.lt _) hz, ⟨A, n - c, 0, by omega, by simpa using hB2.set_ 0 (.slice A (n - c) 0), (hlw.setCell (p := ⟨g, 0, none⟩) (Nat.le_refl _) _).cut_end (by omega) hnc⟩, grown_tr hg1 (grown_tr (grown_of_below hb2 _) (grown_set _ _ _ _))⟩
      · have hcm : ¬ c = m := by assumption
        go_ret
        rw [HRT.out, HT.out]
        have hlw : By w2 g A n l := hl.below (hb2.mono (by have := hb.lt; omega))
        exact ⟨A2, N2, c2, rfl, own_mono (ownsRow_setCell_below (a := ⟨g, 0, none⟩) hO2 hb.lt _) hz, ⟨_, n - m, c - m, by omega, by simpa using hB2.set_ 0 (.slice (A.map (fun x => x.add m)) (n - m) (c - m)), (hlw.setCell (p := ⟨g, 0, none⟩) (Nat.le_refl _) _).cut_far (by omega) hnc hcm⟩, grown_tr hg1 (grown_tr (grown_of_below hb2 _) (grown_set _ _ _ _))⟩
  · have he2 : (er != 0) = true := by simpa using he
    have HE := Lib.hid he
    clear he
    go_wp2
    go_ret
    rw [HRT.out, tk_err HE.out]
    exact ⟨none, 0, 0, rfl, World.ownsRow_nil _ _ _ _, ⟨A, n, c, hnc, hb, hl⟩, hg1⟩

theorem num_two {l : List UInt8} {a b : UInt8} (h : l.length = 2) (h0 : l[0]? = some a) (h1 : l[1]? = some b) : num l = 256 * a.toNat + b.toNat := by
  match l, h with
  | [x, y], _ =>
    simp at h0 h1
    subst h0 h1
    simp [num, Nat.mul_comm]

theorem ropen_any (A : Option Addr) (n c : Nat) (l : List UInt8) (w : World) (hl : By w w.heap.size A n l) (hc : n ≤ c) :
    Calls Try.prog 92 #[.slice A n c] w fun e w' => ∃ A' N c', e = .returned (.tuple #[.int .i64 (openB l).1, .slice A' N c', .int .i64 (openB l).2.2]) ∧
      OwnB w' w.heap.size A' N c' (openB l).2.1 ∧ Below w.heap.size w w' := by
  have HL := Lib.hid hl.len
  by_cases h5 : 512 < n
  · have HO := Lib.hid (show openB l = (0, [], 5) by unfold openB; rw [if_pos (by rw [HL.out]; exact h5)])
    go_enter Try.func92, Try.ntmps92
    go_wp2
    go_ret3
    rw [HO.out]
    exact ⟨none, 0, 0, rfl, World.ownsRow_nil _ _ _ _, Below.refl _ _⟩
  by_cases h3 : n < 3
  · have HO := Lib.hid (show openB l = (0, [], 3) by unfold openB; rw [if_neg (by rw [HL.out]; exact h5), if_pos (by rw [HL.out]; exact h3)])
    go_enter Try.func92, Try.ntmps92
    go_wp2
    go_ret3
    rw [HO.out]
    exact ⟨none, 0, 0, rfl, World.ownsRow_nil _ _ _ _, Below.refl _ _⟩
  obtain ⟨m, rfl⟩ : ∃ m, n = m + 2 := ⟨n - 2, by omega⟩
  have hm : m ≤ 510 := by omega
  have hlt : By w w.heap.size A m (l.take m) := hl.front (by omega)
  obtain ⟨b, off, x, hA, hbb, hcx, hx⟩ := hl.at_ (k := m) (by omega)
  obtain ⟨b2, off2, y, hA2, _, hcy, hy⟩ := hl.at_ (k := m + 1) (by omega)
  rw [hA] at hA2
  injection hA2 with hA2
  injection hA2 with hb2 hoff2
  subst hb2 hoff2
  obtain ⟨b3, off3, c0, hA3, _, hcz, hck⟩ := hl.at_ (k := 0) (by omega)
  rw [hA] at hA3
  injection hA3 with hA3
  injection hA3 with hb3 hoff3
  subst hb3 hoff3
  subst hA
  rw [Nat.add_zero] at hcz
  have HR := Lib.hid (show num (l.drop m) = 256 * x.toNat + y.toNat from num_two (by rw [List.length_drop, HL.out]; omega) (by rw [List.getElem?_drop]; exact hx.out) (by rw [List.getElem?_drop]; exact hy.out))
  have hlm : By w w.heap.size (some ⟨b, off + 1, none⟩) (m - 1) ((l.take m).drop 1) :=
      (hl.front (k := m) (by omega)).cut_far (m := 1) (c := c) (by omega) (by omega) (by omega)
  have hz : (0 : Int) ≤ (m : Int) := by omega
  have hz2 : (m : Int) ≤ (c : Int) := by omega
  have hz3 : (m : Int) ≤ (m : Int) + 2 := by omega
  have hp0 : (0 : Int) < (m : Int) + 2 := by omega
  have hp1 : (1 : Int) ≤ (m : Int) := by omega
  have hp2 : (m : Int) < (m : Int) + 2 := by omega
  have hp3 : (m : Int) + 1 < (m : Int) + 2 := by omega
  have hp4 : (0 : Int) ≤ (m : Int) + 1 := by omega
  have hp5 : (m : Int) + 2 - 1 = (m : Int) + 1 := by omega
  have hp6 : ((m : Int) + 1).toNat = m + 1 := by omega
  have hwm : IntKind.i64.wrap (m : Int) = (m : Int) := IntWalk.i64_in _ (by omega)
  have hwm1 : IntKind.i64.wrap ((m : Int) + 1) = (m : Int) + 1 := IntWalk.i64_in _ (by omega)
  have hc1 : ¬ c = 1 := by omega
  have hwx : IntKind.i64.wrap (x.toNat : Int) = (x.toNat : Int) := by have := byte_lt x; exact IntWalk.i64_in _ (by omega)
  have hwy : IntKind.i64.wrap (y.toNat : Int) = (y.toNat : Int) := by have := byte_lt y; exact IntWalk.i64_in _ (by omega)
  have hw0 : IntKind.i64.wrap (c0.toNat : Int) = (c0.toNat : Int) := by have := byte_lt c0; exact IntWalk.i64_in _ (by omega)
  have hw1 : IntKind.i64.wrap (256 * (x.toNat : Int)) = 256 * (x.toNat : Int) := by have := byte_lt x; exact IntWalk.i64_in _ (by omega)
  have hw2 : IntKind.i64.wrap (256 * (x.toNat : Int) + (y.toNat : Int)) = 256 * (x.toNat : Int) + (y.toNat : Int) := by have := byte_lt x; have := byte_lt y; exact IntWalk.i64_in _ (by omega)
  go_enter Try.func92, Try.ntmps92
  go_wp2_with fail
  go_region_held3 (fun w' => w'.cell? ⟨b, off + m, none⟩ = some (.int .u8 (x.toNat : Int)) ∧ w'.cell? ⟨b, off + (m + 1), none⟩ = some (.int .u8 (y.toNat : Int))) (first | exact ⟨hcx, hcy⟩) (first | (go_at_call 107; refine (rsum_any _ _ _ _ (l.take m) _ (by exact hlt) (by omega)).mono ?_; rintro e w1 ⟨rfl, rfl⟩))
  go_wp2
  · have hne : (crc (l.take m) : Int) ≠ 256 * (x.toNat : Int) + (y.toNat : Int) := bne_iff_ne.1 (by assumption)
    have HO := Lib.hid (open_bad HL.out h5 h3 (fun e => hne (by rw [← e, HR.out]; simp)))
    go_ret3
    rw [HO.out]
    exact ⟨none, 0, 0, rfl, World.ownsRow_nil _ _ _ _, (Below.refl _ w).drew⟩
  · have heq : (crc (l.take m) : Int) = 256 * (x.toNat : Int) + (y.toNat : Int) := by
      have h := (by assumption : ((crc (l.take m) : Int) != 256 * (x.toNat : Int) + (y.toNat : Int)) = false)
      simpa using h
    have HO := Lib.hid (open_good HL.out h5 h3 (by rw [HR.out]; omega) hck.out)
    clear heq
    go_region_held3 (fun w' => w'.cell? ⟨b, off, none⟩ = some (.int .u8 (c0.toNat : Int))) (first | exact hcz | (rw [(undrew (undrew hb3)).cell (p := ⟨b, off, none⟩) (by simp; omega)]; exact hcz)) (first | (go_at_call 24; refine (copy_any _ _ _ w.heap.size ((l.take m).drop 1) _ (by exact hlm) (by omega)).mono ?_; rintro e w3 ⟨A', N', c', rfl, ho3, hb3⟩))
    go_wp2
    go_ret3
    rw [HO.out]
    exact ⟨A', _, c', rfl, ho3, undrew (undrew hb3)⟩
end Go.Proofs.Ytfnnjaljnfphlaa
