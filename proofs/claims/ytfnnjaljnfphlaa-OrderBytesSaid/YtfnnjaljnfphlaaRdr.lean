/- Contracts of package octet that read bytes: take, Num, Text, End, Read, Open. -/
import Derived.Test.YtfnnjaljnfphlaaOct
import Derived.Deep.RegionHeld3
import Derived.Deep.DrawnRows
import Derived.Deep.DeepFit
namespace Go.Proofs.Ytfnnjaljnfphlaa
open Go.RowKit
set_option maxRecDepth 100000
set_option maxHeartbeats 1000000

/-- Block g is a reader (a struct of type t) whose state is s. -/
def RdS (t : TypeId) (w : World) (g : Nat) (s : Rs) : Prop := ∃ A n c, n ≤ c ∧ Bk w g t #[.slice A n c, .int .i64 s.2] ∧ By w g A n s.1

theorem take_any (g m : Nat) (s : Rs) (w : World) (hs : RdS 130 w g s) (hm : m ≤ 1000000) :
    Calls Try.prog 111 #[.pointer (some ⟨g, 0, none⟩), .int .i64 (m : Int)] w fun e w' => ∃ A n c, e = .returned (.slice A n c) ∧ n ≤ c ∧ By w' g A n (tk m s).1 ∧ RdS 130 w' g (tk m s).2 ∧ w.grownBy w' (some g) := by
  obtain ⟨A, n, c, hnc, hb, hl⟩ := hs
  obtain ⟨l, er⟩ := s
  have c0 : w.cell? ⟨g, 0, none⟩ = some (.slice A n c) := hb.cell 0
  have c1 : w.cell? ⟨g, 1, none⟩ = some (.int .i64 er) := hb.cell 1
  have f0 : w.frozen? ⟨g, 0, none⟩ = false := hb.frozen 0
  have f1 : w.frozen? ⟨g, 1, none⟩ = false := hb.frozen 1
  have HL := Lib.hid hl.len
  by_cases he : er = 0
  · subst he
    by_cases hlt : n < m
    · have ht := tk_short (m := m) (l := l) (by rw [HL.out]; exact hlt)
      have HT := Lib.hid ht
      clear ht
      go_enter Try.func111, Try.ntmps111
      go_wp2
      go_ret
      rw [HT.out]
      exact ⟨none, 0, 0, rfl, Nat.le_refl _, By.empty, ⟨none, 0, 0, Nat.le_refl _, by simpa using (hb.set_ 0 (.slice none 0 0)).set_ 1 (.int .i64 3), By.empty⟩, grown_tr (grown_set _ _ _ _) (grown_set _ _ _ _)⟩
    · have ht := tk_ok (m := m) (l := l) (by rw [HL.out]; omega)
      have HT := Lib.hid ht
      clear ht
      go_enter Try.func111, Try.ntmps111
      go_wp2
      · obtain rfl : c = m := by assumption
        go_ret
        rw [HT.out]
        exact ⟨A, c, c, rfl, Nat.le_refl _, (hl.setCell (p := ⟨g, 0, none⟩) (Nat.le_refl _) _).front (by omega), ⟨A, n - c, 0, by omega, by simpa using hb.set_ 0 (.slice A (n - c) 0), (hl.setCell (p := ⟨g, 0, none⟩) (Nat.le_refl _) _).cut_end (by omega) hnc⟩, grown_set _ _ _ _⟩
      · have hcm : ¬ c = m := by assumption
        go_ret
        rw [HT.out]
        exact ⟨A, m, c, rfl, by omega, (hl.setCell (p := ⟨g, 0, none⟩) (Nat.le_refl _) _).front (by omega), ⟨_, n - m, c - m, by omega, by simpa using hb.set_ 0 (.slice (A.map (fun x => x.add m)) (n - m) (c - m)), (hl.setCell (p := ⟨g, 0, none⟩) (Nat.le_refl _) _).cut_far (by omega) hnc hcm⟩, grown_set _ _ _ _⟩
  · have he2 : (er != 0) = true := by simpa using he
    have HE := Lib.hid he
    clear he
    go_enter Try.func111, Try.ntmps111
    go_wp2
    go_ret
    rw [tk_err HE.out]
    exact ⟨none, 0, 0, rfl, Nat.le_refl _, By.empty, ⟨A, n, c, hnc, hb, hl⟩, World.grownBy.refl w _⟩

theorem num_go (l : List UInt8) (k : Nat) (c : UInt8) (h : l[k]? = some c) : num (l.take (k + 1)) = num (l.take k) * 256 + c.toNat := by
  rw [take_next h, num_snoc]

theorem or_step (a : Nat) (c : UInt8) (h : a < 16777216) : bits BinOp.or IntKind.i64 (wrap64 ((a : Int) * 256)) (wrap64 (c.toNat : Int)) = ((a * 256 + c.toNat : Nat) : Int) := by
  have hc := byte_lt c
  have e1 : wrap64 ((a : Int) * 256) = ((a * 256 : Nat) : Int) := by rw [IntWalk.wrap64_in _ ⟨by omega, by omega⟩]; simp
  have e2 : wrap64 (c.toNat : Int) = (c.toNat : Int) := IntWalk.wrap64_in _ ⟨by omega, by omega⟩
  rw [e1, e2]
  show IntKind.i64.wrap ((BitVec.ofInt 64 ((a * 256 : Nat) : Int) ||| BitVec.ofInt 64 (c.toNat : Int)).toNat : Int) = _
  rw [BitVec.toNat_or, BitVec.ofInt_natCast, BitVec.ofInt_natCast, BitVec.toNat_ofNat, BitVec.toNat_ofNat, Nat.mod_eq_of_lt (by omega), Nat.mod_eq_of_lt (by omega), nat_join 8 _ _ (by omega) (by omega), IntKind.wrap_i64]
  omega
theorem num_small (l : List UInt8) (h : l.length ≤ 3) : num l < 16777216 := by
  have h1 := num_lt l
  have h2 : (256 : Nat) ^ l.length ≤ 256 ^ 3 := Nat.pow_le_pow_right (by omega) h
  omega

theorem num_any (g m : Nat) (s : Rs) (w : World) (hs : RdS 130 w g s) (hm : m = 1 ∨ m = 2 ∨ m = 4) :
    Calls Try.prog 71 #[.pointer (some ⟨g, 0, none⟩), .int .i64 (m : Int)] w fun e w' => e = .returned (.int .i64 (rn m s).1) ∧ RdS 130 w' g (rn m s).2 ∧ w.grownBy w' (some g) := by
  have hs0 := hs
  obtain ⟨A, n, c, hnc, hb, hl⟩ := hs
  obtain ⟨l, er⟩ := s
  have c1 : w.cell? ⟨g, 1, none⟩ = some (.int .i64 er) := hb.cell 1
  have hm4 : m ≤ 4 := by omega
  have HM := Lib.hid hm
  clear hm
  have he : (er == 0) = true ∨ (er == 0) = false := by cases (er == 0) <;> simp
  have HT := Lib.hid (tk_len m (l, er))
  rcases he with he | he
  all_goals
    go_enter Try.func71, Try.ntmps71
    go_wp2_with (first | (go_at_call 105; refine (sized_any m _ HM.out).mono ?_; rintro e w1 ⟨rfl, rfl⟩) | (go_at_call 111; refine (take_any g m (l, er) _ hs0 (by omega)).mono ?_; rintro e w1 ⟨A1, n1, c1, rfl, hnc1, hl1, hs1, hg1⟩))
    have hn4 : n1 ≤ 4 := by have := hl1.len; have := HT.out; omega
    go_loop [4, 31] (fun t i => ∃ k : Nat, k ≤ n1 ∧ i = .int .i64 k ∧ t = .int .i64 (num ((tk m (l, er)).1.take k))) (fun _ i => n1 - (intOf i).toNat)
    case atStart => exact ⟨0, by omega, rfl, rfl⟩
    case round =>
      obtain ⟨k, hk, rfl, rfl⟩ := hrel
      by_cases hlt : k < n1
      · obtain ⟨b, off, cc, rfl, hbb, hc, hck⟩ := hl1.at_ hlt
        go_wp2
        go_round
        case rel => exact ⟨k + 1, by omega, by go_num, val_i (by rw [num_go _ _ _ hck.out]; exact or_step _ _ (num_small _ (by rw [List.length_take]; omega)))⟩
        case measure => simp [intOf]; omega
      · obtain rfl : k = n1 := by omega
        have HL := Lib.hid hl1.len
        go_wp2
        go_ret
        exact ⟨ret_i (by rw [List.take_of_length_le (by rw [HL.out]; omega)]; rfl), hs1, hg1⟩

theorem RdS.below {t : TypeId} {w w' : World} {g : Nat} {s : Rs} (h : RdS t w g s) (hb : Below w.heap.size w w') : RdS t w' g s := by
  obtain ⟨A, n, c, hnc, hB, hl⟩ := h
  have hg := hB.lt
  exact ⟨A, n, c, hnc, hB.below hb hg, hl.below (hb.mono (by omega))⟩
theorem RdS.lt {t : TypeId} {w : World} {g : Nat} {s : Rs} (h : RdS t w g s) : g < w.heap.size := by
  obtain ⟨A, n, c, hnc, hB, hl⟩ := h
  exact hB.lt
theorem RdS.new (t : TypeId) {w : World} {A : Option Addr} {n c : Nat} {l : List UInt8} (h : By w w.heap.size A n l) (hc : n ≤ c) :
    RdS t (w.alloc (.cells #[.slice A n c, .int .i64 0] t)) w.heap.size (l, 0) :=
  ⟨A, n, c, hc, Bk.new w t _, h.alloc (Nat.le_refl _) _⟩

theorem rn2_lt (s : Rs) : (rn 2 s).1 ≤ 65535 := by
  have h1 := num_lt (tk 2 s).1
  have h2 : (256 : Nat) ^ (tk 2 s).1.length ≤ 256 ^ 2 := Nat.pow_le_pow_right (by omega) (tk_len 2 s)
  unfold rn
  omega

theorem rtext_any (g : Nat) (s : Rs) (w : World) (hs : RdS 130 w g s) :
    Calls Try.prog 91 #[.pointer (some ⟨g, 0, none⟩)] w fun e w' => ∃ A n c, e = .returned (.slice A n c) ∧ OwnB w' w.heap.size A n c (rt s).1 ∧ RdS 130 w' g (rt s).2 ∧ w.grownBy w' (some g) := by
  have H2 := Lib.hid (rn2_lt s)
  go_enter Try.func91, Try.ntmps91
  go_wp2_with (first | (go_at_call 71; refine (num_any g 2 s _ hs (by omega)).mono ?_; rintro e w1 ⟨rfl, hs1, hg1⟩) | (go_at_call 111; refine (take_any g (rn 2 s).1 (rn 2 s).2 _ hs1 (by have := H2.out; omega)).mono ?_; rintro e w2 ⟨A2, n2, c2, rfl, hnc2, hl2, hs2, hg2⟩) | (go_at_call 106; refine (clone_any _ _ _ _ _ (hl2.more (by have := hs2.lt; omega)) (by have h1 := hl2.len; have h2 := tk_len (rn 2 s).1 (rn 2 s).2; have h3 := H2.out; omega)).mono ?_; rintro e w3 ⟨v3, rfl, ho3, hb3⟩))
  go_ret
  obtain ⟨A', c', rfl, h3⟩ := own_of ho3
  have hg : w.grownBy w3 (some g) := grown_tr (grown_tr hg1 hg2) (grown_of_below hb3 _)
  have hz : w.heap.size ≤ w2.heap.size := (grown_tr hg1 hg2).size
  exact ⟨A', _, c', rfl, own_mono h3 hz, hs2.below hb3, hg⟩

theorem end_any (g : Nat) (s : Rs) (w : World) (hs : RdS 130 w g s) :
    Calls Try.prog 72 #[.pointer (some ⟨g, 0, none⟩)] w fun e w' => e = .returned (.int .i64 (endE s)) ∧ w = w' := by
  obtain ⟨A, n, c, hnc, hb, hl⟩ := hs
  obtain ⟨l, er⟩ := s
  have c0 : w.cell? ⟨g, 0, none⟩ = some (.slice A n c) := hb.cell 0
  have c1 : w.cell? ⟨g, 1, none⟩ = some (.int .i64 er) := hb.cell 1
  have HL := Lib.hid hl.len
  have HE := Lib.hid (show endE (l, er) = if er = 0 ∧ 0 < n then 4 else er by simp [endE, hl.len])
  by_cases he : er = 0
  · subst he
    by_cases hn : 0 < n
    · go_enter Try.func72, Try.ntmps72
      go_wp2
      go_ret
      exact ⟨ret_i (by rw [HE.out, if_pos ⟨trivial, hn⟩]), rfl⟩
    · go_enter Try.func72, Try.ntmps72
      go_wp2
      go_ret
      exact ⟨ret_i (by rw [HE.out, if_neg (by omega)]), rfl⟩
  · have he2 : (er == 0) = false := by simpa using he
    have H := Lib.hid he
    clear he
    go_enter Try.func72, Try.ntmps72
    go_wp2
    go_ret
    exact ⟨ret_i (by rw [HE.out, if_neg (fun h => H.out h.1)]), rfl⟩

theorem read_any (A : Option Addr) (n c : Nat) (l : List UInt8) (w : World) (hl : By w w.heap.size A n l) (hc : n ≤ c) :
    Calls Try.prog 69 #[.slice A n c] w fun e w' => e = .returned (.pointer (some ⟨w.heap.size, 0, none⟩)) ∧ RdS 130 w' w.heap.size (l, 0) ∧ Below w.heap.size w w' ∧ w'.heap.size = w.heap.size + 1 := by
  go_enter Try.func69, Try.ntmps69
  go_wp2
  go_ret
  exact ⟨rfl, RdS.new 130 hl hc, (Below.refl _ w).alloc (Nat.le_refl _) _, by simp⟩

theorem open_bad {l : List UInt8} {m : Nat} (h : l.length = m + 2) (h5 : ¬ 512 < m + 2) (h3 : ¬ m + 2 < 3) (hn : num (l.drop m) ≠ crc (l.take m)) : openB l = (0, [], 30) := by
  unfold openB
  rw [h, if_neg h5, if_neg h3, show m + 2 - 2 = m by omega, if_pos hn]
theorem open_good {l : List UInt8} {m : Nat} {c : UInt8} (h : l.length = m + 2) (h5 : ¬ 512 < m + 2) (h3 : ¬ m + 2 < 3) (hn : num (l.drop m) = crc (l.take m)) (hc : l[0]? = some c) :
    openB l = ((c.toNat : Int), (l.take m).drop 1, 0) := by
  unfold openB
  rw [h, if_neg h5, if_neg h3, show m + 2 - 2 = m by omega, if_neg (by simp [hn])]
  simp [List.getD, hc]

theorem open_any (A : Option Addr) (n c : Nat) (l : List UInt8) (w : World) (hl : By w w.heap.size A n l) (hc : n ≤ c) :
    Calls Try.prog 68 #[.slice A n c] w fun e w' => ∃ A' N c', e = .returned (.tuple #[.int .i64 (openB l).1, .slice A' N c', .int .i64 (openB l).2.2]) ∧
      OwnB w' w.heap.size A' N c' (openB l).2.1 ∧ Below w.heap.size w w' := by
  have HL := Lib.hid hl.len
  by_cases h5 : 512 < n
  · have HO := Lib.hid (show openB l = (0, [], 5) by unfold openB; rw [if_pos (by rw [HL.out]; exact h5)])
    go_enter Try.func68, Try.ntmps68
    go_wp2
    go_ret3
    rw [HO.out]
    exact ⟨none, 0, 0, rfl, World.ownsRow_nil _ _ _ _, Below.refl _ _⟩
  by_cases h3 : n < 3
  · have HO := Lib.hid (show openB l = (0, [], 3) by unfold openB; rw [if_neg (by rw [HL.out]; exact h5), if_pos (by rw [HL.out]; exact h3)])
    go_enter Try.func68, Try.ntmps68
    go_wp2
    go_ret3
    rw [HO.out]
    exact ⟨none, 0, 0, rfl, World.ownsRow_nil _ _ _ _, Below.refl _ _⟩
  obtain ⟨m, rfl⟩ : ∃ m, n = m + 2 := ⟨n - 2, by omega⟩
  have hm : m ≤ 510 := by omega
  have hcm : ¬ c = m := by omega
  have hlt : By w w.heap.size A m (l.take m) := hl.front (by omega)
  have hld : By w w.heap.size (A.map (fun x => x.add m)) 2 (l.drop m) := by
    have := hl.cut_far (m := m) (by omega) hc hcm
    rwa [show m + 2 - m = 2 by omega] at this
  have hz : (0 : Int) ≤ (m : Int) := by omega
  have HR := Lib.hid (show (rn 2 (l.drop m, 0)).1 = num (l.drop m) by unfold rn; rw [tk_ok (by rw [hld.len]; omega)]; simp only; rw [List.take_of_length_le (by rw [hld.len]; omega)])
  have hz2 : (m : Int) ≤ (c : Int) := by omega
  have hz3 : (m : Int) ≤ (m : Int) + 2 := by omega
  go_enter Try.func68, Try.ntmps68
  go_wp2_with fail
  go_region_held3 (fun _ => True) (trivial) (first | (go_at_call 69; refine (read_any _ _ _ (l.drop m) _ (by exact hld) (by omega)).mono ?_; rintro e w1 ⟨rfl, hs1, hb1, hz1⟩; have hb1 := undrew hb1; have hz1 : w1.heap.size = w.heap.size + 1 := hz1) | (go_at_call 71; refine (num_any _ 2 _ _ hs1 (by omega)).mono ?_; rintro e w2 ⟨rfl, hs2, hg2⟩; have hb2 : Below w.heap.size w w2 := below_of_grown hb1 hg2 (by omega) (Nat.le_refl _)) | (go_at_call 73; refine (sum_any _ _ _ _ _ _ (hlt.below hb2) (by omega)).mono ?_; rintro e w3 ⟨rfl, rfl⟩))
  go_wp2
  · have hne : ((rn 2 (l.drop m, 0)).1 : Int) ≠ (crc (l.take m) : Int) := bne_iff_ne.1 (by assumption)
    have HO := Lib.hid (open_bad HL.out h5 h3 (fun e => hne (by rw [HR.out, e])))
    go_ret3
    rw [HO.out]
    exact ⟨none, 0, 0, rfl, World.ownsRow_nil _ _ _ _, hb2⟩
  · obtain ⟨b, off, c0, rfl, hbb, hc0, hck⟩ := hl.at_ (k := 0) (by omega)
    rw [Nat.add_zero] at hc0
    have heq : ((rn 2 (l.drop m, 0)).1 : Int) = (crc (l.take m) : Int) := by
      have h := (by assumption : ((((rn 2 (l.drop m, 0)).1 : Int)) != (crc (l.take m) : Int)) = false)
      simpa using h
    have HO := Lib.hid (open_good HL.out h5 h3 (by rw [← HR.out]; omega) hck.out)
    clear heq
    have hc2 : w2.cell? ⟨b, off, none⟩ = some (.int .u8 (c0.toNat : Int)) := (hb2.cell (p := ⟨b, off, none⟩) hbb).trans hc0
    have hlm : By w2 w2.heap.size (some ⟨b, off + 1, none⟩) (m - 1) ((l.take m).drop 1) :=
      (((hl.front (k := m) (by omega)).cut_far (m := 1) (c := c) (by omega) (by omega) (by omega)).below hb2).more hb2.size
    have hp0 : (0 : Int) < (m : Int) + 2 := by omega
    have hp1 : (1 : Int) ≤ (m : Int) := by omega
    have hwr : IntKind.i64.wrap (c0.toNat : Int) = (c0.toNat : Int) := by have := byte_lt c0; exact IntWalk.i64_in _ (by omega)
    have hc1 : ¬ c = 1 := by omega
    go_region_held3 (fun w' => w'.cell? ⟨b, off, none⟩ = some (.int .u8 (c0.toNat : Int))) (first | exact hc2 | (rw [(undrew hb3).cell (p := ⟨b, off, none⟩) (by have := hb2.size; simp; omega)]; exact hc2)) (first | (go_at_call 106; refine (clone_any _ _ _ ((l.take m).drop 1) _ (by exact hlm) (by omega)).mono ?_; rintro e w3 ⟨v3, rfl, ho3, hb3⟩))
    go_wp2
    go_ret3
    rw [HO.out]
    obtain ⟨A', c', rfl, h3⟩ := own_of ho3
    exact ⟨A', _, c', rfl, own_mono h3 hb2.size, hb2.trans ((undrew hb3).mono hb2.size)⟩
end Go.Proofs.Ytfnnjaljnfphlaa
