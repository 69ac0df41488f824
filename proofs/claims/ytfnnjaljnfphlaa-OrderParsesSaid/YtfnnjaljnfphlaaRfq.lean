/- The reference of chapter 6: rules and orders read; OrderParses: Parse answers as the chapter says, of all bytes. -/
import Derived.Test.YtfnnjaljnfphlaaRfc
import Derived.Test.YtfnnjaljnfphlaaRul
import Derived.Test.YtfnnjaljnfphlaaR02
import Derived.Maps.AppendAt
import Derived.Test.YtfnnjaljnfphlaaM06
import Derived.Test.YtfnnjaljnfphlaaOpr
import Derived.Test.YtfnnjaljnfphlaaOdc
import Derived.Test.YtfnnjaljnfphlaaSms
import Derived.Test.YtfnnjaljnfphlaaL6h
import Derived.Test.YtfnnjaljnfphlaaL6w
namespace Go.Proofs.Ytfnnjaljnfphlaa
open Go.RowKit
set_option maxRecDepth 100000
set_option maxHeartbeats 8000000
set_option linter.unusedSimpArgs false
set_option linter.unusedVariables false

theorem RdS.up {t : TypeId} {w w' : World} {g : Nat} {s : Rs} (h : RdS t w g s) (hb : Below (g + 1) w w') : RdS t w' g s := by
  obtain ⟨A, n, c, hn, K, hl⟩ := h
  exact ⟨A, n, c, hn, K.below hb (by omega), By.below hl (hb.mono (by omega))⟩
theorem gb_below {a w w' : World} {row : Option Nat} (h : a.grownBy w row) (hb : Below a.heap.size w w') : a.grownBy w' row :=
  ⟨hb.os.trans h.os, hb.tape.trans h.tape, hb.output.trans h.output, Nat.le_trans h.size hb.size, fun k hk hr => (hb.block k hk).trans (h.block k hk hr)⟩
theorem u8ofNat (x : Nat) : IntKind.u8.wrap (x : Int) = ((UInt8.ofNat x).toNat : Int) := by
  rw [IntKind.wrap_u8]; simp
theorem rerr_any (g : Nat) (s : Rs) (w : World) (hs : RdS 140 w g s) : Calls Try.prog 104 #[.pointer (some ⟨g, 0, none⟩)] w fun e w' => e = .returned (.int .i64 s.2) ∧ w = w' := by
  obtain ⟨A, n, c, _, hb, _⟩ := hs
  have c1 : w.cell? ⟨g, 1, none⟩ = some (.int .i64 s.2) := hb.cell 1
  go_enter Try.func104, Try.ntmps104
  go_wp2_with fail
  go_ret
  exact ⟨rfl, rfl⟩
theorem rheader_any (g : Nat) (s : Rs) (w : World) (hs : RdS 140 w g s) :
    Calls Try.prog 127 #[.pointer (some ⟨g, 0, none⟩)] w fun e w' => e = .returned (.agg #[.int .u8 ((rdH s).1.1.toNat : Int), .int .u8 ((rdH s).1.2.1.toNat : Int), .int .u8 ((rdH s).1.2.2.toNat : Int)]) ∧ RdS 140 w' g (rdH s).2 ∧ w.grownBy w' (some g) := by
  have hlt := hs.lt
  have hH : rdH s = ((UInt8.ofNat (rn 1 s).1, UInt8.ofNat (rn 1 (rn 1 s).2).1, UInt8.ofNat (rn 1 (rn 1 (rn 1 s).2).2).1), (rn 1 (rn 1 (rn 1 s).2).2).2) := rfl
  have HH := Lib.hid hH
  clear hH
  have e1 := u8ofNat (rn 1 s).1
  have e2 := u8ofNat (rn 1 (rn 1 s).2).1
  have e3 := u8ofNat (rn 1 (rn 1 (rn 1 s).2).2).1
  have h1 := fun w9 h => rnum_any g 1 s w9 h (by omega)
  have h2 := fun w9 h => rnum_any g 1 (rn 1 s).2 w9 h (by omega)
  have h3 := fun w9 h => rnum_any g 1 (rn 1 (rn 1 s).2).2 w9 h (by omega)
  obtain ⟨p1, hp1⟩ : ∃ p, p = rn 1 s := ⟨_, rfl⟩
  rw [← hp1] at HH e1 e2 e3
  simp only [← hp1] at h1 h2 h3
  obtain ⟨p2, hp2⟩ : ∃ p, p = rn 1 p1.2 := ⟨_, rfl⟩
  rw [← hp2] at HH e2 e3
  simp only [← hp2] at h2 h3
  obtain ⟨p3, hp3⟩ : ∃ p, p = rn 1 p2.2 := ⟨_, rfl⟩
  rw [← hp3] at HH e3
  simp only [← hp3] at h3
  have h1h := Lib.hid h1
  have h2h := Lib.hid h2
  have h3h := Lib.hid h3
  clear hp1 hp2 hp3 h1 h2 h3
  obtain ⟨x1, s1⟩ := p1
  obtain ⟨x2, s2⟩ := p2
  obtain ⟨x3, s3⟩ := p3
  simp only at e1 e2 e3
  have K2 := (Bk.new w 46 #[.int .u8 0, .int .u8 0, .int .u8 0]).alloc (.cells #[.int .u8 0, .int .u8 0, .int .u8 0] 46)
  have K3 := Bk.newAt' (w := w.alloc (.cells #[.int .u8 0, .int .u8 0, .int .u8 0] 46)) 46 #[.int .u8 0, .int .u8 0, .int .u8 0] (World.size_alloc _ _)
  have hb := ((Below.refl w.heap.size w).push (.cells #[.int .u8 0, .int .u8 0, .int .u8 0] 46)).push (.cells #[.int .u8 0, .int .u8 0, .int .u8 0] 46)
  have hsz : ((w.alloc (.cells #[.int .u8 0, .int .u8 0, .int .u8 0] 46)).alloc (.cells #[.int .u8 0, .int .u8 0, .int .u8 0] 46)).heap.size = w.heap.size + 1 + 1 := by rw [World.size_alloc, World.size_alloc]
  go_enter Try.func127, Try.ntmps127
  go_upto_region 2 with fail
  generalize (w.alloc _).alloc _ = W at K2 K3 hb hsz ⊢
  have hR := hs.up (hb.mono (by omega))
  have hG := grown_of_below hb (some g)
  clear hb hs
  go_wp2_with fail
  go_loopw [4] (fun i wr => ∃ (k : Nat) (s' : Rs) (u0 u1 u2 : UInt8), k ≤ 3 ∧ i = .int .i64 k ∧ RdS 140 wr g s' ∧ Bk wr w.heap.size 46 #[.int .u8 0, .int .u8 0, .int .u8 0] ∧ Bk wr (w.heap.size + 1) 46 #[.int .u8 (u0.toNat : Int), .int .u8 (u1.toNat : Int), .int .u8 (u2.toNat : Int)] ∧ w.grownBy wr (some g) ∧ w.heap.size + 1 + 1 ≤ wr.heap.size ∧ Hid ((k = 0 → s' = s) ∧ (k = 1 → s' = s1 ∧ u0 = UInt8.ofNat x1) ∧ (k = 2 → s' = s2 ∧ u0 = UInt8.ofNat x1 ∧ u1 = UInt8.ofNat x2) ∧ (k = 3 → s' = s3 ∧ u0 = UInt8.ofNat x1 ∧ u1 = UInt8.ofNat x2 ∧ u2 = UInt8.ofNat x3))) (fun i _ => 3 - (intOf i).toNat)
  case atStart => exact ⟨0, s, 0, 0, 0, by omega, rfl, hR, K2, K3, hG, by omega, ⟨fun _ => rfl, fun h => by omega, fun h => by omega, fun h => by omega⟩⟩
  case round =>
    clear hR K2 K3 hG hsz
    obtain ⟨k, s', u0, u1, u2, hk, rfl, hR, K2, K3, hG, hsz, HK⟩ := hrel
    obtain ⟨wq, hwq⟩ : ∃ q, q = wr := ⟨_, rfl⟩
    subst hwq
    obtain rfl | rfl | rfl | rfl : k = 0 ∨ k = 1 ∨ k = 2 ∨ k = 3 := by omega
    · obtain rfl := HK.out.1 rfl
      go_wp2_with (go_at_call 94; refine (h1h.out _ hR).mono ?_; rintro e w5 ⟨rfl, hR5, hG5⟩; have K35 := K3.grown hG5 (by simp; omega); obtain ⟨d0, d1, d2, f3⟩ := K35.three)
      go_roundw
      case rel =>
        have hs5 := hG5.size
        refine ⟨1, _, (UInt8.ofNat x1), u1, u2, by omega, by go_num, hR5.up ((Below.refl (g + 1) w5).setCell (p := ⟨w.heap.size + 1, 0, none⟩) (by simp; omega) _), (K2.grown hG5 (by simp; omega)).far (by simp) _, (by simpa using K35.set_ 0 (.int .u8 ((UInt8.ofNat x1).toNat : Int))), gb_below (hG.trans hG5) ((Below.refl w.heap.size w5).setCell (p := ⟨w.heap.size + 1, 0, none⟩) (by simp) _), by simp; omega, ⟨fun h => by omega, fun _ => ⟨rfl, rfl⟩, fun h => by omega, fun h => by omega⟩⟩
      case measure => simp [intOf]
    · obtain ⟨rfl, rfl⟩ := HK.out.2.1 rfl
      go_wp2_with (go_at_call 94; refine (h2h.out _ hR).mono ?_; rintro e w5 ⟨rfl, hR5, hG5⟩; have K35 := K3.grown hG5 (by simp; omega); obtain ⟨d0, d1, d2, f3⟩ := K35.three)
      go_roundw
      case rel =>
        have hs5 := hG5.size
        refine ⟨2, _, (UInt8.ofNat x1), (UInt8.ofNat x2), u2, by omega, by go_num, hR5.up ((Below.refl (g + 1) w5).setCell (p := ⟨w.heap.size + 1, 1, none⟩) (by simp; omega) _), (K2.grown hG5 (by simp; omega)).far (by simp) _, (by simpa using K35.set_ 1 (.int .u8 ((UInt8.ofNat x2).toNat : Int))), gb_below (hG.trans hG5) ((Below.refl w.heap.size w5).setCell (p := ⟨w.heap.size + 1, 1, none⟩) (by simp) _), by simp; omega, ⟨fun h => by omega, fun h => by omega, fun _ => ⟨rfl, rfl, rfl⟩, fun h => by omega⟩⟩
      case measure => simp [intOf]
    · obtain ⟨rfl, rfl, rfl⟩ := HK.out.2.2.1 rfl
      go_wp2_with (go_at_call 94; refine (h3h.out _ hR).mono ?_; rintro e w5 ⟨rfl, hR5, hG5⟩; have K35 := K3.grown hG5 (by simp; omega); obtain ⟨d0, d1, d2, f3⟩ := K35.three)
      go_roundw
      case rel =>
        have hs5 := hG5.size
        refine ⟨3, _, (UInt8.ofNat x1), (UInt8.ofNat x2), (UInt8.ofNat x3), by omega, by go_num, hR5.up ((Below.refl (g + 1) w5).setCell (p := ⟨w.heap.size + 1, 2, none⟩) (by simp; omega) _), (K2.grown hG5 (by simp; omega)).far (by simp) _, (by simpa using K35.set_ 2 (.int .u8 ((UInt8.ofNat x3).toNat : Int))), gb_below (hG.trans hG5) ((Below.refl w.heap.size w5).setCell (p := ⟨w.heap.size + 1, 2, none⟩) (by simp) _), by simp; omega, ⟨fun h => by omega, fun h => by omega, fun h => by omega, fun _ => ⟨rfl, rfl, rfl, rfl⟩⟩⟩
      case measure => simp [intOf]
    · obtain ⟨rfl, rfl, rfl, rfl⟩ := HK.out.2.2.2 rfl
      obtain ⟨c0, c1, c2, f2⟩ := K2.three
      obtain ⟨d0, d1, d2, f3⟩ := K3.three
      have hbl : Below w.heap.size wq ((((wq.setCell ⟨w.heap.size, 0, none⟩ (.int .u8 ((UInt8.ofNat x1).toNat : Int))).setCell ⟨w.heap.size, 1, none⟩ (.int .u8 ((UInt8.ofNat x2).toNat : Int))).setCell ⟨w.heap.size, 2, none⟩ (.int .u8 ((UInt8.ofNat x3).toNat : Int)))) := (((Below.refl _ _).setCell (p := ⟨w.heap.size, 0, none⟩) (by simp) _).setCell (p := ⟨w.heap.size, 1, none⟩) (by simp) _).setCell (p := ⟨w.heap.size, 2, none⟩) (by simp) _
      go_wp2_with fail
      refine bodyPost_ret (v := .agg #[.int .u8 ((UInt8.ofNat x1).toNat : Int), .int .u8 ((UInt8.ofNat x2).toNat : Int), .int .u8 ((UInt8.ofNat x3).toNat : Int)]) (by simp [results, Try.results127, go_sem, c0, c1, c2]) rfl ?_
      rw [HH.out]
      exact ⟨rfl, hR.up (hbl.mono (by omega)), gb_below hG hbl⟩

theorem tk_fix {m : Nat} {s : Rs} (h : s.2 ≠ 0) : rn m s = (0, s) := rnum_err h
theorem rdOut_fix {s : Rs} (h : s.2 ≠ 0) : (rdOut s).2 = s := by
  unfold rdOut
  simp only [tk_fix h]
theorem rdOuts_fix (n : Nat) {s : Rs} (h : s.2 ≠ 0) : (rdOuts n s).2 = s := by
  induction n with
  | zero => rfl
  | succ n ih => simp only [rdOuts, rdOut_fix h, ih]
theorem rdOuts_succ (n : Nat) : ∀ s, rdOuts (n + 1) s = ((rdOuts n s).1 ++ [(rdOut (rdOuts n s).2).1], (rdOut (rdOuts n s).2).2) := by
  induction n with
  | zero => intro s; simp [rdOuts]
  | succ n ih =>
    intro s
    rw [rdOuts]
    simp only [ih (rdOut s).2]
    simp [rdOuts]
theorem rdOuts_split (k n : Nat) (h : k ≤ n) (s : Rs) (he : (rdOuts k s).2.2 ≠ 0) : (rdOuts n s).2 = (rdOuts k s).2 := by
  obtain ⟨d, rfl⟩ := Nat.exists_eq_add_of_le h
  clear h
  induction d with
  | zero => rfl
  | succ d ih =>
    rw [← Nat.add_assoc, rdOuts_succ]
    simp only [ih]
    exact rdOut_fix he
theorem rn_lt (m : Nat) (hm : m = 1 ∨ m = 2 ∨ m = 4) (s : Rs) : (rn m s).1 < 256 ^ m := by
  unfold rn
  have h := num_lt (tk m s).1
  rcases Nat.lt_or_ge s.1.length m with hl | hl
  · by_cases he : s.2 = 0
    · obtain ⟨l, e⟩ := s
      subst he
      rw [tk_short hl]
      simp only [num_nil]
      exact Nat.pow_pos (by omega)
    · obtain ⟨l, e⟩ := s
      rw [tk_err he]
      simp only [num_nil]
      exact Nat.pow_pos (by omega)
  · by_cases he : s.2 = 0
    · obtain ⟨l, e⟩ := s
      subst he
      rw [tk_ok hl] at h ⊢
      simp only at h hl ⊢
      rwa [List.length_take, Nat.min_eq_left hl] at h
    · obtain ⟨l, e⟩ := s
      rw [tk_err he]
      simp only [num_nil]
      exact Nat.pow_pos (by omega)
/-- What a taking of a rule answers. -/
def TkQ (g : Nat) (s : Rs) (w : World) (e : Ending) (w' : World) : Prop :=
  ∃ r A L c, e = .returned (.agg (ruC r A L c)) ∧ ((rdRu s).2.2 = 0 → r = (rdRu s).1) ∧ RdS 140 w' g (rdRu s).2 ∧ w'.ownsRow w.heap.size 65 4 (.slice A L c) L (r.os.flatMap outC) ∧ r.os.length = L ∧ L ≤ 255 ∧ w.grownBy w' (some g)
theorem rtake_any (g : Nat) (s : Rs) (w : World) (hs : RdS 140 w g s) : Calls Try.prog 125 #[.pointer (some ⟨g, 0, none⟩)] w (TkQ g s w) := by
  have hlt := hs.lt
  obtain ⟨T, hT⟩ : ∃ T, T = rdRu s := ⟨_, rfl⟩
  unfold TkQ
  rw [← hT]
  have HTe := Lib.hid hT
  have h1 := fun w9 h => rnum_any g 1 s w9 h (by omega)
  have h2 := fun w9 h => rnum_any g 2 (rn 1 s).2 w9 h (by omega)
  have h3 := fun w9 h => rnum_any g 1 (rn 2 (rn 1 s).2).2 w9 h (by omega)
  have h4 := fun w9 h => rnum_any g 1 (rn 1 (rn 2 (rn 1 s).2).2).2 w9 h (by omega)
  have l1 := rn_lt 1 (by omega) s
  unfold rdRu at hT
  simp only at hT
  obtain ⟨P1, hP1⟩ : ∃ p, p = rn 1 s := ⟨_, rfl⟩
  rw [← hP1] at hT l1
  simp only [← hP1] at h1 h2 h3 h4
  obtain ⟨P2, hP2⟩ : ∃ p, p = rn 2 P1.2 := ⟨_, rfl⟩
  rw [← hP2] at hT
  simp only [← hP2] at h2 h3 h4
  obtain ⟨P3, hP3⟩ : ∃ p, p = rn 1 P2.2 := ⟨_, rfl⟩
  rw [← hP3] at hT
  simp only [← hP3] at h3 h4
  obtain ⟨P4, hP4⟩ : ∃ p, p = rn 1 P3.2 := ⟨_, rfl⟩
  rw [← hP4] at hT
  simp only [← hP4] at h4
  obtain ⟨k0, s1⟩ := P1
  obtain ⟨k1, s2⟩ := P2
  obtain ⟨k2, s3⟩ := P3
  obtain ⟨k3, s4⟩ := P4
  simp only at h1 h2 h3 h4 hT l1
  have h1h := Lib.hid h1
  have h2h := Lib.hid h2
  have h3h := Lib.hid h3
  have h4h := Lib.hid h4
  clear h1 h2 h3 h4 hP1 hP2 hP3 hP4
  have HT := Lib.hid hT
  clear hT
  have hb0 := (Below.refl w.heap.size w).push (.cells #[.int .i64 0, .int .i64 0, .int .i64 0, .int .i64 0, .int .i64 0, .int .i64 0, .int .u8 0, .int .u8 0, .int .u8 0, .int .u8 0, .int .u8 0, .int .u8 0, .slice none 0 0] 51)
  have K2 := Bk.new w 51 #[.int .i64 0, .int .i64 0, .int .i64 0, .int .i64 0, .int .i64 0, .int .i64 0, .int .u8 0, .int .u8 0, .int .u8 0, .int .u8 0, .int .u8 0, .int .u8 0, .slice none 0 0]
  have hsz : (w.alloc (.cells #[.int .i64 0, .int .i64 0, .int .i64 0, .int .i64 0, .int .i64 0, .int .i64 0, .int .u8 0, .int .u8 0, .int .u8 0, .int .u8 0, .int .u8 0, .int .u8 0, .slice none 0 0] 51)).heap.size = w.heap.size + 1 := World.size_alloc _ _
  go_enter Try.func125, Try.ntmps125
  go_upto_region 1 with fail
  generalize w.alloc _ = W at K2 hb0 hsz ⊢
  have hR := hs.up (hb0.mono (by omega))
  have hG := grown_of_below hb0 (some g)
  clear hb0 hs
  go_upto_region 2 with (first | (go_at_call 94; (with_reducible show Calls Try.prog 94 #[_, .int .i64 2] _ _); refine (h2h.out _ hR1).mono ?_; rintro e w2 ⟨rfl, hR2, hG2⟩) | (go_at_call 94; first | (refine (h4h.out _ hR3).mono ?_; rintro e w4 ⟨rfl, hR4, hG4⟩) | (refine (h3h.out _ hR2).mono ?_; rintro e w3 ⟨rfl, hR3, hG3⟩) | (refine (h1h.out _ hR).mono ?_; rintro e w1 ⟨rfl, hR1, hG1⟩)))
  have hgn : g ≠ w.heap.size := by omega
  have K2 := (((K2.grown hG1 (by simp; omega)).grown hG2 (by simp; omega)).grown hG3 (by simp; omega)).grown hG4 (by simp; omega)
  have hz1 := hG1.size
  have hz2 := hG2.size
  have hz3 := hG3.size
  have hz4 := hG4.size
  have hG := (((hG.trans hG1).trans hG2).trans hG3).trans hG4
  clear hR hR1 hR2 hR3 hG1 hG2 hG3 hG4 h1h h2h h3h h4h
  have hn3 : w.heap.size < w4.heap.size := by omega
  clear hz1 hz2 hz3 hz4 hsz
  have K2 := K2.alloc (.cells #[.int .i64 (k0 : Int), .int .i64 (k1 : Int), .int .i64 (k2 : Int), .int .i64 (k3 : Int), .int .i64 0, .int .i64 0, .int .u8 0, .int .u8 0, .int .u8 0, .int .u8 0, .int .u8 0, .int .u8 0, .slice none 0 0] 51)
  have K3 := Bk.new w4 51 #[.int .i64 (k0 : Int), .int .i64 (k1 : Int), .int .i64 (k2 : Int), .int .i64 (k3 : Int), .int .i64 0, .int .i64 0, .int .u8 0, .int .u8 0, .int .u8 0, .int .u8 0, .int .u8 0, .int .u8 0, .slice none 0 0]
  have hbl := (Below.refl w4.heap.size w4).push (.cells #[.int .i64 (k0 : Int), .int .i64 (k1 : Int), .int .i64 (k2 : Int), .int .i64 (k3 : Int), .int .i64 0, .int .i64 0, .int .u8 0, .int .u8 0, .int .u8 0, .int .u8 0, .int .u8 0, .int .u8 0, .slice none 0 0] 51)
  have hR := hR4.up (hbl.mono (by omega))
  have hG := gb_below hG (hbl.mono (by omega))
  have hsz : w4.heap.size < (w4.alloc (.cells #[.int .i64 (k0 : Int), .int .i64 (k1 : Int), .int .i64 (k2 : Int), .int .i64 (k3 : Int), .int .i64 0, .int .i64 0, .int .u8 0, .int .u8 0, .int .u8 0, .int .u8 0, .int .u8 0, .int .u8 0, .slice none 0 0] 51)).heap.size := by simp
  clear hbl hR4
  generalize w4.heap.size = n3 at K3 hn3 hsz ⊢
  generalize w4.alloc _ = W at K2 K3 hR hG hsz ⊢
  have c0 : W.cell? ⟨n3, 0, none⟩ = some (.int .i64 (k0 : Int)) := K3.cell 0
  by_cases hk : k0 = 1
  · subst hk
    have hT := HT.out
    rw [if_pos rfl] at hT
    have h5 := fun w9 h => rnum_any g 1 s4 w9 h (by omega)
    have h6 := fun w9 h => rnum_any g 1 (rn 1 s4).2 w9 h (by omega)
    have h7 := fun w9 h => rheader_any g (rn 1 (rn 1 s4).2).2 w9 h
    have h8 := fun w9 h => rheader_any g (rdH (rn 1 (rn 1 s4).2).2).2 w9 h
    have h9 := fun w9 h => rnum_any g 1 (rdH (rdH (rn 1 (rn 1 s4).2).2).2).2 w9 h (by omega)
    have l6 := rn_lt 1 (by omega) (rn 1 s4).2
    have l9 := rn_lt 1 (by omega) (rdH (rdH (rn 1 (rn 1 s4).2).2).2).2
    unfold rdMk at hT
    simp only at hT
    obtain ⟨P5, hP5⟩ : ∃ p, p = rn 1 s4 := ⟨_, rfl⟩
    rw [← hP5] at hT l6 l9
    simp only [← hP5] at h5 h6 h7 h8 h9
    obtain ⟨P6, hP6⟩ : ∃ p, p = rn 1 P5.2 := ⟨_, rfl⟩
    rw [← hP6] at hT l6 l9
    simp only [← hP6] at h6 h7 h8 h9
    obtain ⟨P7, hP7⟩ : ∃ p, p = rdH P6.2 := ⟨_, rfl⟩
    rw [← hP7] at hT l9
    simp only [← hP7] at h7 h8 h9
    obtain ⟨P8, hP8⟩ : ∃ p, p = rdH P7.2 := ⟨_, rfl⟩
    rw [← hP8] at hT l9
    simp only [← hP8] at h8 h9
    obtain ⟨P9, hP9⟩ : ∃ p, p = rn 1 P8.2 := ⟨_, rfl⟩
    rw [← hP9] at hT l9
    simp only [← hP9] at h9
    obtain ⟨x5, s5⟩ := P5
    obtain ⟨x6, s6⟩ := P6
    obtain ⟨⟨b0, b1, b2⟩, s7⟩ := P7
    obtain ⟨⟨i0, i1, i2⟩, s8⟩ := P8
    obtain ⟨cnt, s9⟩ := P9
    simp only at h5 h6 h7 h8 h9 hT l6 l9
    have h5h := Lib.hid h5
    have h6h := Lib.hid h6
    have h7h := Lib.hid h7
    have h8h := Lib.hid h8
    have h9h := Lib.hid h9
    clear h5 h6 h7 h8 h9 hP5 hP6 hP7 hP8 hP9 HT
    have hw6 : IntKind.i64.wrap ((x6 : Int) - 1) = (x6 : Int) - 1 := IntWalk.i64_in _ (by omega)
    go_upto_region 5 with (first | (go_at_call 127; first | (refine (h8h.out _ hR7).mono ?_; rintro e w8 ⟨rfl, hR8, hG8⟩; have K38 := (((K3.grown hG5 (by simp; omega)).grown hG6 (by simp; omega)).grown hG7 (by simp; omega)).grown hG8 (by simp; omega); obtain ⟨d0, d1, d2, d3, d4, d5, d6, d7, d8, d9, d10, d11, d12, f3⟩ := K38.r13) | (refine (h7h.out _ hR6).mono ?_; rintro e w7 ⟨rfl, hR7, hG7⟩)) | (go_at_call 94; first | (refine (h6h.out _ hR5).mono ?_; rintro e w6 ⟨rfl, hR6, hG6⟩) | (refine (h5h.out _ hR).mono ?_; rintro e w5 ⟨rfl, hR5, hG5⟩)))
    clear d0 d1 d2 d3 d4 d5 d6 d7 d8 d9 d10 d11 d12 f3 c0
    have K2 := ((((K2.grown hG5 (by simp; omega)).grown hG6 (by simp; omega)).grown hG7 (by simp; omega)).grown hG8 (by simp; omega)).far8 (k := n3) (by omega) (.int .i64 (x5 : Int)) (.int .i64 ((x6 : Int) - 1)) (.int .u8 (b0.toNat : Int)) (.int .u8 (b1.toNat : Int)) (.int .u8 (b2.toNat : Int)) (.int .u8 (i0.toNat : Int)) (.int .u8 (i1.toNat : Int)) (.int .u8 (i2.toNat : Int))
    have K3 := K38.set8 (.int .i64 (x5 : Int)) (.int .i64 ((x6 : Int) - 1)) (.int .u8 (b0.toNat : Int)) (.int .u8 (b1.toNat : Int)) (.int .u8 (b2.toNat : Int)) (.int .u8 (i0.toNat : Int)) (.int .u8 (i1.toNat : Int)) (.int .u8 (i2.toNat : Int))
    have hbl := below8 (k := n3) (Below.refl w.heap.size w8) (by omega) (.int .i64 (x5 : Int)) (.int .i64 ((x6 : Int) - 1)) (.int .u8 (b0.toNat : Int)) (.int .u8 (b1.toNat : Int)) (.int .u8 (b2.toNat : Int)) (.int .u8 (i0.toNat : Int)) (.int .u8 (i1.toNat : Int)) (.int .u8 (i2.toNat : Int))
    have hR := hR8.up (hbl.mono (by omega))
    have hz5 := hG5.size
    have hz6 := hG6.size
    have hz7 := hG7.size
    have hz8 := hG8.size
    have hzb := hbl.size
    have hG := gb_below ((((hG.trans hG5).trans hG6).trans hG7).trans hG8) hbl
    have hbl2 := below8 (k := n3) (Below.refl n3 w8) (by omega) (.int .i64 (x5 : Int)) (.int .i64 ((x6 : Int) - 1)) (.int .u8 (b0.toNat : Int)) (.int .u8 (b1.toNat : Int)) (.int .u8 (b2.toNat : Int)) (.int .u8 (i0.toNat : Int)) (.int .u8 (i1.toNat : Int)) (.int .u8 (i2.toNat : Int))
    have hz9 := hbl2.size
    clear hbl2 hR5 hR6 hR7 hR8 hG5 hG6 hG7 hG8 K38 h5h h6h h7h h8h hbl hw6
    generalize ((((((((w8.setCell ⟨n3, 4, none⟩ _).setCell ⟨n3, 5, none⟩ _).setCell ⟨n3, 6, none⟩ _).setCell ⟨n3, 7, none⟩ _).setCell ⟨n3, 8, none⟩ _).setCell ⟨n3, 9, none⟩ _).setCell ⟨n3, 10, none⟩ _).setCell ⟨n3, 11, none⟩ _) = W5 at K2 K3 hR hG hz9 hzb ⊢
    have hsz5 : n3 < W5.heap.size := K3.lt
    clear hz5 hz6 hz7 hz8 hz9 hzb hsz
    go_upto_region 6 with (go_at_call 94; refine (h9h.out _ hR).mono ?_; rintro e w9 ⟨rfl, hR9, hG9⟩)
    have K2 := K2.grown hG9 (by simp; omega)
    have K3 := K3.grown hG9 (by simp; omega)
    have hG := hG.trans hG9
    have hsz := hG9.size
    have hsz : n3 < w9.heap.size := by omega
    clear hG9 h9h hR hsz5
    obtain ⟨i65, hi0, hz0, hz1, hz2⟩ := info_parts info65
    go_wp2_with fail
    go_loopw [5] (fun i wr => ∃ (k : Nat) (A' : Option Addr) (c' : Nat), k ≤ cnt ∧ i = .int .i64 k ∧ RdS 140 wr g (rdOuts k s9).2 ∧ Bk wr w.heap.size 51 #[.int .i64 0, .int .i64 0, .int .i64 0, .int .i64 0, .int .i64 0, .int .i64 0, .int .u8 0, .int .u8 0, .int .u8 0, .int .u8 0, .int .u8 0, .int .u8 0, .slice none 0 0] ∧ Bk wr n3 51 #[.int .i64 1, .int .i64 (k1 : Int), .int .i64 (k2 : Int), .int .i64 (k3 : Int), .int .i64 (x5 : Int), .int .i64 ((x6 : Int) - 1), .int .u8 (b0.toNat : Int), .int .u8 (b1.toNat : Int), .int .u8 (b2.toNat : Int), .int .u8 (i0.toNat : Int), .int .u8 (i1.toNat : Int), .int .u8 (i2.toNat : Int), .slice A' k c'] ∧ wr.ownsRow (n3 + 1) 65 4 (.slice A' k c') k ((rdOuts k s9).1.flatMap outC) ∧ w.grownBy wr (some g) ∧ n3 < wr.heap.size) (fun i _ => cnt - (intOf i).toNat)
    case atStart => exact ⟨0, none, 0, by omega, rfl, hR9, K2, K3, World.ownsRow_nil _ _ _ _, hG, hsz⟩
    case round =>
      clear hR9 K2 K3 hG hsz
      obtain ⟨k, A', c', hkc, rfl, hR, K2, K3, hown, hG, hsz⟩ := hrel
      obtain ⟨wq, hwq⟩ : ∃ q, q = wr := ⟨_, rfl⟩
      subst hwq
      by_cases hlt : k < cnt
      · have hl1 : (k : Int) < (cnt : Int) := by omega
        by_cases he : (rdOuts k s9).2.2 = 0
        · have he1 : ((rdOuts k s9).2.2 == 0) = true := by simpa using he
          have hsu := rdOuts_succ k s9
          have hlen := rdOuts_len k s9
          obtain ⟨O, hO⟩ : ∃ x, x = (rdOuts k s9).1 := ⟨_, rfl⟩
          obtain ⟨S, hS⟩ : ∃ x, x = (rdOuts k s9).2 := ⟨_, rfl⟩
          rw [← hO] at hsu hown hlen
          rw [← hS] at hsu hR he1 he
          have ha := fun w9 h => rnum_any g 1 S w9 h (by omega)
          have hb' := fun w9 h => rnum_any g 2 (rn 1 S).2 w9 h (by omega)
          have hc'' := fun w9 h => rnum_any g 2 (rn 2 (rn 1 S).2).2 w9 h (by omega)
          have hd := fun w9 h => rnum_any g 2 (rn 2 (rn 2 (rn 1 S).2).2).2 w9 h (by omega)
          have l2 := rn_lt 2 (by omega) (rn 1 S).2
          have l3 := rn_lt 2 (by omega) (rn 2 (rn 1 S).2).2
          have l4 := rn_lt 2 (by omega) (rn 2 (rn 2 (rn 1 S).2).2).2
          unfold rdOut at hsu
          simp only at hsu
          obtain ⟨P1, hP1⟩ : ∃ p, p = rn 1 S := ⟨_, rfl⟩
          rw [← hP1] at hsu l2 l3 l4
          simp only [← hP1] at ha hb' hc'' hd
          obtain ⟨P2, hP2⟩ : ∃ p, p = rn 2 P1.2 := ⟨_, rfl⟩
          rw [← hP2] at hsu l2 l3 l4
          simp only [← hP2] at hb' hc'' hd
          obtain ⟨P3, hP3⟩ : ∃ p, p = rn 2 P2.2 := ⟨_, rfl⟩
          rw [← hP3] at hsu l3 l4
          simp only [← hP3] at hc'' hd
          obtain ⟨P4, hP4⟩ : ∃ p, p = rn 2 P3.2 := ⟨_, rfl⟩
          rw [← hP4] at hsu l4
          simp only [← hP4] at hd
          obtain ⟨x1, t1⟩ := P1
          obtain ⟨x2, t2⟩ := P2
          obtain ⟨x3, t3⟩ := P3
          obtain ⟨x4, t4⟩ := P4
          simp only at ha hb' hc'' hd hsu l2 l3 l4
          have hah := Lib.hid ha
          have hbh := Lib.hid hb'
          have hch := Lib.hid hc''
          have hdh := Lib.hid hd
          have HSU := Lib.hid hsu
          clear ha hb' hc'' hd hP1 hP2 hP3 hP4 hsu hO hS
          have hw2 : IntKind.i64.wrap ((x2 : Int) - 1) = (x2 : Int) - 1 := IntWalk.i64_in _ (by omega)
          have hw3 : IntKind.i64.wrap ((x3 : Int) - 1) = (x3 : Int) - 1 := IntWalk.i64_in _ (by omega)
          have hw4 : IntKind.i64.wrap ((x4 : Int) - 1) = (x4 : Int) - 1 := IntWalk.i64_in _ (by omega)
          go_wp2_with (first | (go_at_call 104; refine (rerr_any _ _ _ hR).mono ?_; rintro e w1 ⟨rfl, rfl⟩) | (go_at_call 94; refine (hah.out _ hR).mono ?_; rintro e w5 ⟨rfl, hR5, hG5⟩))
          have hz5 := hG5.size
          have K2 := K2.grown hG5 (by simp; omega)
          have K3 := K3.grown hG5 (by simp; omega)
          have hown := own_heap (w' := w5) hown fun g9 hg9 hl9 => hG5.block g9 hl9 (by simp; omega)
          have hG := hG.trans hG5
          have hsz : n3 < w5.heap.size := by omega
          have hgl : g + 1 ≤ w5.heap.size := by omega
          clear hG5 he1 he
          obtain ⟨n6, hn6⟩ : ∃ n, n = w5.heap.size := ⟨_, rfl⟩
          have K6 := Bk.newAt' (w := w5) (n := n6) 65 #[.int .i64 (x1 : Int), .int .i64 0, .int .i64 0, .int .i64 0] hn6.symm
          have hbl := (Below.refl w5.heap.size w5).push (.cells #[.int .i64 (x1 : Int), .int .i64 0, .int .i64 0, .int .i64 0] 65)
          have hR5 := hR5.up (hbl.mono hgl)
          have hs6 : n6 < (w5.alloc (.cells #[.int .i64 (x1 : Int), .int .i64 0, .int .i64 0, .int .i64 0] 65)).heap.size := by rw [World.size_alloc]; omega
          have hn36 : n3 < n6 := by omega
          have hgn6 : g < n6 := by omega
          clear hbl
          have hGa := World.grownBy_alloc w5 (.cells #[.int .i64 (x1 : Int), .int .i64 0, .int .i64 0, .int .i64 0] 65) (some g)
          have hn6h := Lib.hid hn6
          rw [← hn6]
          clear hn6 hsz hz5 hgl hR
          generalize w5.alloc _ = wq at K6 hs6 hR5 hGa ⊢
          go_loopw [7] (fun i w3 => ∃ (j : Nat) (s' : Rs) (z0 z1 z2 : Int), j ≤ 3 ∧ i = .int .i64 j ∧ RdS 140 w3 g s' ∧ Bk w3 n6 65 #[.int .i64 (x1 : Int), .int .i64 z0, .int .i64 z1, .int .i64 z2] ∧ w5.grownBy w3 (some g) ∧ n6 < w3.heap.size ∧ Hid ((j = 0 → s' = t1) ∧ (j = 1 → s' = t2 ∧ z0 = (x2 : Int) - 1) ∧ (j = 2 → s' = t3 ∧ z0 = (x2 : Int) - 1 ∧ z1 = (x3 : Int) - 1) ∧ (j = 3 → s' = t4 ∧ z0 = (x2 : Int) - 1 ∧ z1 = (x3 : Int) - 1 ∧ z2 = (x4 : Int) - 1))) (fun i _ => 3 - (intOf i).toNat)
          case atStart => exact ⟨0, t1, 0, 0, 0, by omega, rfl, hR5, K6, hGa, hs6, ⟨fun _ => rfl, fun h => by omega, fun h => by omega, fun h => by omega⟩⟩
          case round =>
            clear hR5 K6 hs6 hGa
            obtain ⟨j, s', z0, z1, z2, hj, rfl, hRj, K6, hGj, hs7, HJ⟩ := hrel
            obtain ⟨w3, hw3'⟩ : ∃ q, q = wr := ⟨_, rfl⟩
            subst hw3'
            obtain rfl | rfl | rfl | rfl : j = 0 ∨ j = 1 ∨ j = 2 ∨ j = 3 := by omega
            · obtain rfl := HJ.out.1 rfl
              go_wp2_with (go_at_call 94; refine (hbh.out _ hRj).mono ?_; rintro e w7 ⟨rfl, hR7, hG7⟩; have K67 := K6.grown hG7 (by simp; omega); obtain ⟨q0, q1, q2, q3, qf⟩ := K67.four)
              go_roundw
              case rel =>
                have hs7 := hG7.size
                refine ⟨1, _, ((x2 : Int) - 1), z1, z2, by omega, by go_num, hR7.up ((Below.refl (g + 1) w7).setCell (p := ⟨n6, 1, none⟩) (by simp; omega) _), (by simpa using K67.set_ 1 (.int .i64 ((x2 : Int) - 1))), gb_below (hGj.trans hG7) ((Below.refl w5.heap.size w7).setCell (p := ⟨n6, 1, none⟩) (by have := hn6h.out; simp; omega) _), by simp; omega, ⟨fun h => by omega, fun _ => ⟨rfl, rfl⟩, fun h => by omega, fun h => by omega⟩⟩
              case measure => simp [intOf]
            · obtain ⟨rfl, rfl⟩ := HJ.out.2.1 rfl
              go_wp2_with (go_at_call 94; refine (hch.out _ hRj).mono ?_; rintro e w7 ⟨rfl, hR7, hG7⟩; have K67 := K6.grown hG7 (by simp; omega); obtain ⟨q0, q1, q2, q3, qf⟩ := K67.four)
              go_roundw
              case rel =>
                have hs7 := hG7.size
                refine ⟨2, _, ((x2 : Int) - 1), ((x3 : Int) - 1), z2, by omega, by go_num, hR7.up ((Below.refl (g + 1) w7).setCell (p := ⟨n6, 2, none⟩) (by simp; omega) _), (by simpa using K67.set_ 2 (.int .i64 ((x3 : Int) - 1))), gb_below (hGj.trans hG7) ((Below.refl w5.heap.size w7).setCell (p := ⟨n6, 2, none⟩) (by have := hn6h.out; simp; omega) _), by simp; omega, ⟨fun h => by omega, fun h => by omega, fun _ => ⟨rfl, rfl, rfl⟩, fun h => by omega⟩⟩
              case measure => simp [intOf]
            · obtain ⟨rfl, rfl, rfl⟩ := HJ.out.2.2.1 rfl
              go_wp2_with (go_at_call 94; refine (hdh.out _ hRj).mono ?_; rintro e w7 ⟨rfl, hR7, hG7⟩; have K67 := K6.grown hG7 (by simp; omega); obtain ⟨q0, q1, q2, q3, qf⟩ := K67.four)
              go_roundw
              case rel =>
                have hs7 := hG7.size
                refine ⟨3, _, ((x2 : Int) - 1), ((x3 : Int) - 1), ((x4 : Int) - 1), by omega, by go_num, hR7.up ((Below.refl (g + 1) w7).setCell (p := ⟨n6, 3, none⟩) (by simp; omega) _), (by simpa using K67.set_ 3 (.int .i64 ((x4 : Int) - 1))), gb_below (hGj.trans hG7) ((Below.refl w5.heap.size w7).setCell (p := ⟨n6, 3, none⟩) (by have := hn6h.out; simp; omega) _), by simp; omega, ⟨fun h => by omega, fun h => by omega, fun h => by omega, fun _ => ⟨rfl, rfl, rfl, rfl⟩⟩⟩
              case measure => simp [intOf]
            · obtain ⟨rfl, rfl, rfl, rfl⟩ := HJ.out.2.2.2 rfl
              have hn6e := hn6h.out
              have KW := K2.grown hGj (by simp; omega)
              have KC := K3.grown hGj (by simp; omega)
              have hGw := hG.trans hGj
              have hown3 := own_heap (w' := w3) hown fun g9 hg9 hl9 => hGj.block g9 hl9 (by simp; omega)
              have hbl := (Below.refl w5.heap.size w3).alloc (by omega) (.cells #[.int .i64 (x1 : Int), .int .i64 ((x2 : Int) - 1), .int .i64 ((x3 : Int) - 1), .int .i64 ((x4 : Int) - 1)] 65)
              have KW6 := KW.alloc (.cells #[.int .i64 (x1 : Int), .int .i64 ((x2 : Int) - 1), .int .i64 ((x3 : Int) - 1), .int .i64 ((x4 : Int) - 1)] 65)
              have KC6 := KC.alloc (.cells #[.int .i64 (x1 : Int), .int .i64 ((x2 : Int) - 1), .int .i64 ((x3 : Int) - 1), .int .i64 ((x4 : Int) - 1)] 65)
              have hown6 := hown3.alloc (.cells #[.int .i64 (x1 : Int), .int .i64 ((x2 : Int) - 1), .int .i64 ((x3 : Int) - 1), .int .i64 ((x4 : Int) - 1)] 65)
              have hN6 : Rd (w3.alloc (.cells #[.int .i64 (x1 : Int), .int .i64 ((x2 : Int) - 1), .int .i64 ((x3 : Int) - 1), .int .i64 ((x4 : Int) - 1)] 65)) (w3.heap.size + 1) 4 (some ⟨w3.heap.size, 0, none⟩) 1 (outC ((x1 : Int), (x2 : Int) - 1, (x3 : Int) - 1, (x4 : Int) - 1)) := (by simpa using (Bk.new w3 65 #[.int .i64 (x1 : Int), .int .i64 ((x2 : Int) - 1), .int .i64 ((x3 : Int) - 1), .int .i64 ((x4 : Int) - 1)]).rd (n := 1) (size := 4) rfl : Rd _ _ 4 _ 1 [.int .i64 (x1 : Int), .int .i64 ((x2 : Int) - 1), .int .i64 ((x3 : Int) - 1), .int .i64 ((x4 : Int) - 1)])
              have d12 : w3.cell? ⟨n3, 12, none⟩ = some (.slice A' k c') := KC.cell 12
              obtain ⟨q0, q1, q2, q3, qf⟩ := K6.four
              have hsA : n3 + 1 ≤ (w3.alloc (.cells #[.int .i64 (x1 : Int), .int .i64 ((x2 : Int) - 1), .int .i64 ((x3 : Int) - 1), .int .i64 ((x4 : Int) - 1)] 65)).heap.size := by simp; omega
              clear hl1
              have hh := Lib.hid hn6e
              clear hn6e
              go_wp2_with (at_builtin; refine wpList_append_rd _ rfl _ _ _ rfl (n3 + 1) 65 i65 _ 4 32 Try.underlying49 hi0 hz0 hz1 hz2 rfl (by omega) _ _ _ rfl hown6 (w3.heap.size + 1) (some ⟨w3.heap.size, 0, none⟩) 1 1 (outC ((x1 : Int), (x2 : Int) - 1, (x3 : Int) - 1, (x4 : Int) - 1)) rfl hN6 (by simp [outC, Value.oneCell']) (by unfold maxLen; omega) (by omega) hsA ?_; intro v5 wf hown5 hg5 hat5; obtain ⟨A5, c5, rfl, hc5, hf5⟩ := own_any hown5; have KC5 := KC6.grown hg5 (own_far hown6 (by omega)); obtain ⟨r0, r1, r2, r3, r4, r5, r6, r7, r8, r9, r10, r11, r12, rf⟩ := KC5.r13)
              go_roundw
              case rel =>
                have hblf : Below (g + 1) w3 wf := ((Below.refl (g + 1) w3).alloc (by omega) (.cells #[.int .i64 (x1 : Int), .int .i64 ((x2 : Int) - 1), .int .i64 ((x3 : Int) - 1), .int .i64 ((x4 : Int) - 1)] 65)).grown hg5 (by simp; omega) (fun j hj => by have := (hown6.lt j hj).1; omega)
                have hblw : Below w.heap.size w3 wf := ((Below.refl w.heap.size w3).alloc (by omega) (.cells #[.int .i64 (x1 : Int), .int .i64 ((x2 : Int) - 1), .int .i64 ((x3 : Int) - 1), .int .i64 ((x4 : Int) - 1)] 65)).grown hg5 (by simp; omega) (fun j hj => by have := (hown6.lt j hj).1; omega)
                refine ⟨k + 1, A5, c5, by omega, by go_num, ?_, (KW6.grown hg5 (own_far hown6 (by omega))).far (by first | (simp; done) | (simp; omega)) _, by simpa using KC5.set_ 12 (.slice A5 (k + 1) c5), ?_, ?_, ?_⟩
                · rw [HSU.out]
                  exact hRj.up (hblf.setCell (p := ⟨n3, 12, none⟩) (by simp; omega) _)
                · refine own_heap (w := wf) ?_ fun g9 hg9 _ => Below.heap_setCell wf _ _ g9 (by simp; omega)
                  rw [HSU.out, List.flatMap_append, List.flatMap_singleton]
                  exact hown5
                · exact gb_below hGw (hblw.setCell (p := ⟨n3, 12, none⟩) (by simp; omega) _)
                · have := hg5.size
                  simp at this ⊢
                  omega
              case measure => simp [intOf]; omega
        · have he1 : ((rdOuts k s9).2.2 == 0) = false := by simpa using he
          have KR : Bk wq n3 51 (ruC ⟨((1 : Nat) : Int), (k1 : Int), (k2 : Int), (k3 : Int), ⟨(x5 : Int), (x6 : Int) - 1, b0, b1, b2, i0, i1, i2⟩, (rdOuts k s9).1⟩ A' k c') := K3
          have hld := KR.ld 51 _ Try.underlying51 rfl info51
          have hst := st51 K2 rfl ⟨((1 : Nat) : Int), (k1 : Int), (k2 : Int), (k3 : Int), ⟨(x5 : Int), (x6 : Int) - 1, b0, b1, b2, i0, i1, i2⟩, (rdOuts k s9).1⟩ A' k c'
          have KF := setRow_heap wq _ _ (ruC ⟨((1 : Nat) : Int), (k1 : Int), (k2 : Int), (k3 : Int), ⟨(x5 : Int), (x6 : Int) - 1, b0, b1, b2, i0, i1, i2⟩, (rdOuts k s9).1⟩ A' k c') _ _ K2
          have hbl := below_setRow (B := w.heap.size) (g := w.heap.size) (Below.refl _ wq) (Nat.le_refl _) (ruC ⟨((1 : Nat) : Int), (k1 : Int), (k2 : Int), (k3 : Int), ⟨(x5 : Int), (x6 : Int) - 1, b0, b1, b2, i0, i1, i2⟩, (rdOuts k s9).1⟩ A' k c')
          have hSZ : (ruC ⟨((1 : Nat) : Int), (k1 : Int), (k2 : Int), (k3 : Int), ⟨(x5 : Int), (x6 : Int) - 1, b0, b1, b2, i0, i1, i2⟩, (rdOuts k s9).1⟩ A' k c').size = 13 := rfl
          have hfin : TkQ g s w (.returned (.agg (ruC ⟨((1 : Nat) : Int), (k1 : Int), (k2 : Int), (k3 : Int), ⟨(x5 : Int), (x6 : Int) - 1, b0, b1, b2, i0, i1, i2⟩, (rdOuts k s9).1⟩ A' k c'))) (wq.setRow w.heap.size (ruC ⟨((1 : Nat) : Int), (k1 : Int), (k2 : Int), (k3 : Int), ⟨(x5 : Int), (x6 : Int) - 1, b0, b1, b2, i0, i1, i2⟩, (rdOuts k s9).1⟩ A' k c')) := by
            unfold TkQ
            rw [← HTe.out, hT]
            exact ⟨_, A', k, c', rfl, fun h => absurd (by rw [← rdOuts_split k cnt hkc s9 he]; exact h) he, by rw [rdOuts_split k cnt hkc s9 he]; exact hR.up (hbl.mono (by omega)), own_mono (own_heap hown fun g9 hg _ => setRow_other wq _ _ _ (by omega)) (by omega), rdOuts_len _ _, by omega, gb_below hG hbl⟩
          generalize ruC ⟨((1 : Nat) : Int), (k1 : Int), (k2 : Int), (k3 : Int), ⟨(x5 : Int), (x6 : Int) - 1, b0, b1, b2, i0, i1, i2⟩, (rdOuts k s9).1⟩ A' k c' = R at hld hst KF hSZ hfin
          clear KR K3 K2 hbl hown
          go_wp2_with (first | (go_at_call 104; refine (rerr_any _ _ _ hR).mono ?_; rintro e w1 ⟨rfl, rfl⟩) | ((with_reducible show wpList Try.prog _ _ (Oper.mk (some 63) _ _ _ _ _ :: _) _ _); refine wpL_load 51 (.tmp 3) (.pointer (some ⟨n3, 0, none⟩)) rfl rfl rfl hld ?_) | ((with_reducible show wpList Try.prog _ _ (Oper.mk none _ _ _ _ _ :: _) _ _); refine wpL_store 51 (.tmp 2) (.tmp 63) (.pointer (some ⟨w.heap.size, 0, none⟩)) (.agg R) rfl rfl rfl rfl hst ?_))
          refine bodyPost_ret (results_51 rfl _ _ rfl KF hSZ) rfl ?_
          unfold TkQ at hfin
          rw [← HTe.out] at hfin
          exact hfin
      · obtain rfl : k = cnt := by omega
        have KR : Bk wq n3 51 (ruC ⟨((1 : Nat) : Int), (k1 : Int), (k2 : Int), (k3 : Int), ⟨(x5 : Int), (x6 : Int) - 1, b0, b1, b2, i0, i1, i2⟩, (rdOuts k s9).1⟩ A' k c') := K3
        have hld := KR.ld 51 _ Try.underlying51 rfl info51
        have hst := st51 K2 rfl ⟨((1 : Nat) : Int), (k1 : Int), (k2 : Int), (k3 : Int), ⟨(x5 : Int), (x6 : Int) - 1, b0, b1, b2, i0, i1, i2⟩, (rdOuts k s9).1⟩ A' k c'
        have KF := setRow_heap wq _ _ (ruC ⟨((1 : Nat) : Int), (k1 : Int), (k2 : Int), (k3 : Int), ⟨(x5 : Int), (x6 : Int) - 1, b0, b1, b2, i0, i1, i2⟩, (rdOuts k s9).1⟩ A' k c') _ _ K2
        have hbl := below_setRow (B := w.heap.size) (g := w.heap.size) (Below.refl _ wq) (Nat.le_refl _) (ruC ⟨((1 : Nat) : Int), (k1 : Int), (k2 : Int), (k3 : Int), ⟨(x5 : Int), (x6 : Int) - 1, b0, b1, b2, i0, i1, i2⟩, (rdOuts k s9).1⟩ A' k c')
        have hSZ : (ruC ⟨((1 : Nat) : Int), (k1 : Int), (k2 : Int), (k3 : Int), ⟨(x5 : Int), (x6 : Int) - 1, b0, b1, b2, i0, i1, i2⟩, (rdOuts k s9).1⟩ A' k c').size = 13 := rfl
        have hfin : TkQ g s w (.returned (.agg (ruC ⟨((1 : Nat) : Int), (k1 : Int), (k2 : Int), (k3 : Int), ⟨(x5 : Int), (x6 : Int) - 1, b0, b1, b2, i0, i1, i2⟩, (rdOuts k s9).1⟩ A' k c'))) (wq.setRow w.heap.size (ruC ⟨((1 : Nat) : Int), (k1 : Int), (k2 : Int), (k3 : Int), ⟨(x5 : Int), (x6 : Int) - 1, b0, b1, b2, i0, i1, i2⟩, (rdOuts k s9).1⟩ A' k c')) := by
          unfold TkQ
          rw [← HTe.out, hT]
          exact ⟨_, A', k, c', rfl, fun _ => rfl, hR.up (hbl.mono (by omega)), own_mono (own_heap hown fun g9 hg _ => setRow_other wq _ _ _ (by omega)) (by omega), rdOuts_len _ _, by omega, gb_below hG hbl⟩
        generalize ruC ⟨((1 : Nat) : Int), (k1 : Int), (k2 : Int), (k3 : Int), ⟨(x5 : Int), (x6 : Int) - 1, b0, b1, b2, i0, i1, i2⟩, (rdOuts k s9).1⟩ A' k c' = R at hld hst KF hSZ hfin
        clear KR K3 K2 hbl hown
        go_wp2_with (first | (go_at_call 104; refine (rerr_any _ _ _ hR).mono ?_; rintro e w1 ⟨rfl, rfl⟩) | ((with_reducible show wpList Try.prog _ _ (Oper.mk (some 63) _ _ _ _ _ :: _) _ _); refine wpL_load 51 (.tmp 3) (.pointer (some ⟨n3, 0, none⟩)) rfl rfl rfl hld ?_) | ((with_reducible show wpList Try.prog _ _ (Oper.mk none _ _ _ _ _ :: _) _ _); refine wpL_store 51 (.tmp 2) (.tmp 63) (.pointer (some ⟨w.heap.size, 0, none⟩)) (.agg R) rfl rfl rfl rfl hst ?_))
        refine bodyPost_ret (results_51 rfl _ _ rfl KF hSZ) rfl ?_
        unfold TkQ at hfin
        rw [← HTe.out] at hfin
        exact hfin
  · have hk1 : ((k0 : Int) != 1) = true := by simp; omega
    have hT := HT.out
    rw [if_neg hk] at hT
    have KR : Bk W n3 51 (ruC ⟨(k0 : Int), (k1 : Int), (k2 : Int), (k3 : Int), mk0, []⟩ none 0 0) := K3
    have hld := KR.ld 51 _ Try.underlying51 rfl info51
    have hst := st51 K2 rfl ⟨(k0 : Int), (k1 : Int), (k2 : Int), (k3 : Int), mk0, []⟩ none 0 0
    have KF := setRow_heap W _ _ (ruC ⟨(k0 : Int), (k1 : Int), (k2 : Int), (k3 : Int), mk0, []⟩ none 0 0) _ _ K2
    have hbl := below_setRow (B := w.heap.size) (g := w.heap.size) (Below.refl _ W) (Nat.le_refl _) (ruC ⟨(k0 : Int), (k1 : Int), (k2 : Int), (k3 : Int), mk0, []⟩ none 0 0)
    have hSZ : (ruC ⟨(k0 : Int), (k1 : Int), (k2 : Int), (k3 : Int), mk0, []⟩ none 0 0).size = 13 := rfl
    have hfin : TkQ g s w (.returned (.agg (ruC ⟨(k0 : Int), (k1 : Int), (k2 : Int), (k3 : Int), mk0, []⟩ none 0 0))) (W.setRow w.heap.size (ruC ⟨(k0 : Int), (k1 : Int), (k2 : Int), (k3 : Int), mk0, []⟩ none 0 0)) := by
      unfold TkQ
      rw [← HTe.out, hT]
      exact ⟨_, none, 0, 0, rfl, fun _ => rfl, hR.up (hbl.mono (by omega)), World.ownsRow_nil _ _ _ _, rfl, by omega, gb_below hG hbl⟩
    generalize ruC ⟨(k0 : Int), (k1 : Int), (k2 : Int), (k3 : Int), mk0, []⟩ none 0 0 = R at hld hst KF hSZ hfin
    clear KR K3 K2 hbl
    go_wp2_with (first | ((with_reducible show wpList Try.prog _ _ (Oper.mk (some 20) _ _ _ _ _ :: _) _ _); refine wpL_load 51 (.tmp 3) (.pointer (some ⟨n3, 0, none⟩)) rfl rfl rfl hld ?_) | ((with_reducible show wpList Try.prog _ _ (Oper.mk none _ _ _ _ _ :: _) _ _); refine wpL_store 51 (.tmp 2) (.tmp 20) (.pointer (some ⟨w.heap.size, 0, none⟩)) (.agg R) rfl rfl rfl rfl hst ?_))
    refine bodyPost_ret (results_51 rfl _ _ rfl KF hSZ) rfl ?_
    unfold TkQ at hfin
    rw [← HTe.out] at hfin
    exact hfin

/-- What a taking of an order answers. -/
def ToQ (g : Nat) (s : Rs) (q : Or6 × (Rs × Bool)) (w : World) (e : Ending) (w' : World) : Prop :=
  ∃ o A L c f, e = .returned (.tuple #[.agg (orC o A L c), .bool f]) ∧ (q.2.1.2 = 0 → f = (!q.2.2) ∧ (q.2.2 = false → o = q.1)) ∧ RdS 140 w' g q.2.1 ∧ w'.ownsRow w.heap.size 65 4 (.slice A L c) L (o.r.os.flatMap outC) ∧ o.r.os.length = L ∧ L ≤ 255 ∧ w.grownBy w' (some g)
theorem rtakeo_any (g : Nat) (s : Rs) (w : World) (hs : RdS 140 w g s) : Calls Try.prog 103 #[.pointer (some ⟨g, 0, none⟩)] w (ToQ g s (kRd ((rn 1 s).1 : Int) ((rn 1 s).2, false)) w) := by
  have hlt := hs.lt
  have h1 := fun w9 h => rnum_any g 1 s w9 h (by omega)
  obtain ⟨P1, hP1⟩ : ∃ p, p = rn 1 s := ⟨_, rfl⟩
  rw [← hP1]
  simp only [← hP1] at h1
  obtain ⟨k0, s1⟩ := P1
  simp only at h1 ⊢
  obtain ⟨k, hk⟩ : ∃ k : Int, k = (k0 : Int) := ⟨_, rfl⟩
  simp only [← hk] at h1 ⊢
  have h1h := Lib.hid h1
  clear h1 hP1 hk
  obtain ⟨Q, hQ⟩ : ∃ Q, Q = kRd k (s1, false) := ⟨_, rfl⟩
  rw [← hQ]
  have HQ := Lib.hid hQ
  clear hQ
  have hal := alloc53 w
  have K2 := Bk.new w 53 (orC or0 none 0 0)
  have hb0 := (Below.refl w.heap.size w).push (.cells (orC or0 none 0 0) 53)
  have hsz : (w.alloc (.cells (orC or0 none 0 0) 53)).heap.size = w.heap.size + 1 := World.size_alloc _ _
  go_enter Try.func103, Try.ntmps103
  go_upto_region 1 with ((with_reducible show wpList Try.prog _ _ (Oper.mk (some 2) _ _ _ _ _ :: _) _ _); refine wpL_alloc 53 rfl rfl hal ?_)
  clear hal
  generalize w.alloc _ = W at K2 hb0 hsz ⊢
  have hR := hs.up (hb0.mono (by omega))
  have hG := grown_of_below hb0 (some g)
  clear hb0 hs
  go_upto_region 2 with (first | (go_at_call 94; refine (h1h.out _ hR).mono ?_; rintro e w1 ⟨rfl, hR1, hG1⟩; have hal := alloc53 w1; have hbl := bld53k k w1; have hst := vst53 w1 ⟨k, 0, 0, ru0, pr0⟩ none 0 0) | ((with_reducible show wpList Try.prog _ _ (Oper.mk (some 11) _ _ _ _ _ :: _) _ _); refine wpL_build 53 0 (.tmp 10) (.int .i64 k) rfl rfl rfl hbl ?_) | ((with_reducible show wpList Try.prog _ _ (Oper.mk (some 4) _ _ _ _ _ :: _) _ _); refine wpL_alloc 53 rfl rfl hal ?_) | ((with_reducible show wpList Try.prog _ _ (Oper.mk none _ _ _ _ _ :: _) _ _); refine wpL_store 53 (.tmp 4) (.tmp 11) _ (.agg (orC ⟨k, 0, 0, ru0, pr0⟩ none 0 0)) rfl rfl rfl rfl hst ?_))
  clear hal hbl hst h1h hR
  have K2 := (K2.grown hG1 (by simp; omega)).alloc (.cells (orC ⟨k, 0, 0, ru0, pr0⟩ none 0 0) 53)
  have hz1 := hG1.size
  have K4 := Bk.new w1 53 (orC ⟨k, 0, 0, ru0, pr0⟩ none 0 0)
  have hbl := (Below.refl w1.heap.size w1).push (.cells (orC ⟨k, 0, 0, ru0, pr0⟩ none 0 0) 53)
  have hR := hR1.up (hbl.mono (by omega))
  have hG := gb_below (hG.trans hG1) (hbl.mono (by omega))
  have hn4 : w.heap.size < w1.heap.size := by omega
  have hs4 : (w1.alloc (.cells (orC ⟨k, 0, 0, ru0, pr0⟩ none 0 0) 53)).heap.size = w1.heap.size + 1 := World.size_alloc _ _
  clear hG1 hR1 hbl hz1
  generalize w1.heap.size = n4 at K4 hn4 hs4 ⊢
  generalize w1.alloc _ = W at K2 K4 hR hG hs4 ⊢
  have c0 : W.cell? ⟨n4, 0, none⟩ = some (.int .i64 k) := K4.cell 0
  by_cases h9 : 1 ≤ k ∧ k ≤ 9
  · obtain rfl | rfl | rfl | rfl | rfl | rfl | rfl | rfl | rfl : k = 1 ∨ k = 2 ∨ k = 3 ∨ k = 4 ∨ k = 5 ∨ k = 6 ∨ k = 7 ∨ k = 8 ∨ k = 9 := by omega
    · have hQ : Q = (⟨1, 0, 0, ru0, pr0⟩, (s1, false)) := by rw [HQ.out]; simp [kRd]
      go_upto_region 26 with fail
      clear c0
      have hld := K4.ld53 rfl
      have hst := st53 K2 rfl ⟨1, 0, 0, ru0, pr0⟩ none 0 0
      have KF := setRow_heap W _ _ (orC ⟨1, 0, 0, ru0, pr0⟩ none 0 0) _ _ K2
      have hbl := below_setRow (B := w.heap.size) (g := w.heap.size) (Below.refl _ W) (Nat.le_refl _) (orC ⟨1, 0, 0, ru0, pr0⟩ none 0 0)
      have hSZ : (orC ⟨1, 0, 0, ru0, pr0⟩ none 0 0).size = 21 := rfl
      have hfin : ToQ g s Q w (.returned (.tuple #[.agg (orC ⟨1, 0, 0, ru0, pr0⟩ none 0 0), .bool true])) (W.setRow w.heap.size (orC ⟨1, 0, 0, ru0, pr0⟩ none 0 0)) :=
        ⟨⟨1, 0, 0, ru0, pr0⟩, none, 0, 0, true, rfl, (by rw [hQ]; exact fun _ => ⟨rfl, fun _ => rfl⟩), (by rw [hQ]; exact hR.up (hbl.mono (by omega))), (World.ownsRow_nil _ _ _ _), rfl, by omega, gb_below hG hbl⟩
      generalize (orC ⟨1, 0, 0, ru0, pr0⟩ none 0 0) = R at hld hst KF hSZ hfin
      clear K4 K2 hbl
      go_wp2_with (first | ((with_reducible show wpList Try.prog _ _ (Oper.mk (some 70) _ _ _ _ _ :: _) _ _); refine wpL_load 53 (.tmp 4) (.pointer (some ⟨n4, 0, none⟩)) rfl rfl rfl hld ?_) | ((with_reducible show wpList Try.prog _ _ (Oper.mk none _ _ _ _ _ :: _) _ _); refine wpL_store 53 (.tmp 2) (.tmp 70) (.pointer (some ⟨w.heap.size, 0, none⟩)) (.agg R) rfl rfl rfl rfl hst ?_))
      refine bodyPost_ret (results_c rfl _ _ rfl KF hSZ) rfl ?_
      exact hfin
    · have htk := Lib.hid (rtake_any g s1 W hR)
      go_upto_region 26 with (first | (go_at_call 125; refine htk.out.mono ?_; rintro e w5 ⟨r5, A5, L5, c5, rfl, hi5, hR5, hO5, hl5, hL5, hG5⟩; have hst5 := st51m (K4.grown hG5 (by simp; omega)) r5 A5 L5 c5; obtain ⟨hs5, KC5⟩ := hst5) | ((with_reducible show wpList Try.prog _ _ (Oper.mk none _ _ _ _ _ :: _) _ _); refine wpL_store 51 (.tmp 19) (.tmp 18) (.pointer (some ⟨n4, 3, none⟩)) (.agg (ruC r5 A5 L5 c5)) rfl rfl rfl rfl hs5 ?_))
      have hblc := below_setCells (B := n4) (b := n4) (ruC r5 A5 L5 c5).toList 3 (Below.refl n4 w5) (Nat.le_refl _)
      have K2 := (K2.grown hG5 (by simp; omega)).below hblc hn4
      rw [hs4] at hO5
      have hO5 := own_heap hO5 (w' := w5.setCells n4 3 (ruC r5 A5 L5 c5).toList) fun g9 hg9 _ => heap_setCells _ _ _ _ _ (by omega)
      have hR := hR5.up (hblc.mono (by omega))
      have hG := gb_below (hG.trans hG5) (hblc.mono (by omega))
      have K4 := KC5
      clear c0 htk hs5 KC5 hR5 hG5 hblc
      generalize w5.setCells _ _ _ = W at K2 K4 hR hG hO5 ⊢
      have hQ : Q = (⟨2, 0, 0, (rdRu s1).1, pr0⟩, ((rdRu s1).2, false)) := by rw [HQ.out]; simp [kRd]
      have hld := K4.ld53 rfl
      have hst := st53 K2 rfl ⟨2, 0, 0, r5, pr0⟩ A5 L5 c5
      have KF := setRow_heap W _ _ (orC ⟨2, 0, 0, r5, pr0⟩ A5 L5 c5) _ _ K2
      have hbl := below_setRow (B := w.heap.size) (g := w.heap.size) (Below.refl _ W) (Nat.le_refl _) (orC ⟨2, 0, 0, r5, pr0⟩ A5 L5 c5)
      have hSZ : (orC ⟨2, 0, 0, r5, pr0⟩ A5 L5 c5).size = 21 := rfl
      have hfin : ToQ g s Q w (.returned (.tuple #[.agg (orC ⟨2, 0, 0, r5, pr0⟩ A5 L5 c5), .bool true])) (W.setRow w.heap.size (orC ⟨2, 0, 0, r5, pr0⟩ A5 L5 c5)) :=
        ⟨⟨2, 0, 0, r5, pr0⟩, A5, L5, c5, true, rfl, (by rw [hQ]; exact fun h => ⟨rfl, fun _ => by rw [hi5 h]⟩), (by rw [hQ]; exact hR.up (hbl.mono (by omega))), (own_mono (own_heap hO5 fun g9 hg9 _ => setRow_other W _ _ _ (by omega)) (by omega)), hl5, hL5, gb_below hG hbl⟩
      generalize (orC ⟨2, 0, 0, r5, pr0⟩ A5 L5 c5) = R at hld hst KF hSZ hfin
      clear K4 K2 hbl
      go_wp2_with (first | ((with_reducible show wpList Try.prog _ _ (Oper.mk (some 70) _ _ _ _ _ :: _) _ _); refine wpL_load 53 (.tmp 4) (.pointer (some ⟨n4, 0, none⟩)) rfl rfl rfl hld ?_) | ((with_reducible show wpList Try.prog _ _ (Oper.mk none _ _ _ _ _ :: _) _ _); refine wpL_store 53 (.tmp 2) (.tmp 70) (.pointer (some ⟨w.heap.size, 0, none⟩)) (.agg R) rfl rfl rfl rfl hst ?_))
      refine bodyPost_ret (results_c rfl _ _ rfl KF hSZ) rfl ?_
      exact hfin
    · have htk := Lib.hid (rtake_any g s1 W hR)
      go_upto_region 26 with (first | (go_at_call 125; refine htk.out.mono ?_; rintro e w5 ⟨r5, A5, L5, c5, rfl, hi5, hR5, hO5, hl5, hL5, hG5⟩; have hst5 := st51m (K4.grown hG5 (by simp; omega)) r5 A5 L5 c5; obtain ⟨hs5, KC5⟩ := hst5) | ((with_reducible show wpList Try.prog _ _ (Oper.mk none _ _ _ _ _ :: _) _ _); refine wpL_store 51 (.tmp 19) (.tmp 18) (.pointer (some ⟨n4, 3, none⟩)) (.agg (ruC r5 A5 L5 c5)) rfl rfl rfl rfl hs5 ?_))
      have hblc := below_setCells (B := n4) (b := n4) (ruC r5 A5 L5 c5).toList 3 (Below.refl n4 w5) (Nat.le_refl _)
      have K2 := (K2.grown hG5 (by simp; omega)).below hblc hn4
      rw [hs4] at hO5
      have hO5 := own_heap hO5 (w' := w5.setCells n4 3 (ruC r5 A5 L5 c5).toList) fun g9 hg9 _ => heap_setCells _ _ _ _ _ (by omega)
      have hR := hR5.up (hblc.mono (by omega))
      have hG := gb_below (hG.trans hG5) (hblc.mono (by omega))
      have K4 := KC5
      clear c0 htk hs5 KC5 hR5 hG5 hblc
      generalize w5.setCells _ _ _ = W at K2 K4 hR hG hO5 ⊢
      have hQ : Q = (⟨3, 0, 0, (rdRu s1).1, pr0⟩, ((rdRu s1).2, false)) := by rw [HQ.out]; simp [kRd]
      have hld := K4.ld53 rfl
      have hst := st53 K2 rfl ⟨3, 0, 0, r5, pr0⟩ A5 L5 c5
      have KF := setRow_heap W _ _ (orC ⟨3, 0, 0, r5, pr0⟩ A5 L5 c5) _ _ K2
      have hbl := below_setRow (B := w.heap.size) (g := w.heap.size) (Below.refl _ W) (Nat.le_refl _) (orC ⟨3, 0, 0, r5, pr0⟩ A5 L5 c5)
      have hSZ : (orC ⟨3, 0, 0, r5, pr0⟩ A5 L5 c5).size = 21 := rfl
      have hfin : ToQ g s Q w (.returned (.tuple #[.agg (orC ⟨3, 0, 0, r5, pr0⟩ A5 L5 c5), .bool true])) (W.setRow w.heap.size (orC ⟨3, 0, 0, r5, pr0⟩ A5 L5 c5)) :=
        ⟨⟨3, 0, 0, r5, pr0⟩, A5, L5, c5, true, rfl, (by rw [hQ]; exact fun h => ⟨rfl, fun _ => by rw [hi5 h]⟩), (by rw [hQ]; exact hR.up (hbl.mono (by omega))), (own_mono (own_heap hO5 fun g9 hg9 _ => setRow_other W _ _ _ (by omega)) (by omega)), hl5, hL5, gb_below hG hbl⟩
      generalize (orC ⟨3, 0, 0, r5, pr0⟩ A5 L5 c5) = R at hld hst KF hSZ hfin
      clear K4 K2 hbl
      go_wp2_with (first | ((with_reducible show wpList Try.prog _ _ (Oper.mk (some 70) _ _ _ _ _ :: _) _ _); refine wpL_load 53 (.tmp 4) (.pointer (some ⟨n4, 0, none⟩)) rfl rfl rfl hld ?_) | ((with_reducible show wpList Try.prog _ _ (Oper.mk none _ _ _ _ _ :: _) _ _); refine wpL_store 53 (.tmp 2) (.tmp 70) (.pointer (some ⟨w.heap.size, 0, none⟩)) (.agg R) rfl rfl rfl rfl hst ?_))
      refine bodyPost_ret (results_c rfl _ _ rfl KF hSZ) rfl ?_
      exact hfin
    · have ha := fun w9 h => rnum_any g 1 s1 w9 h (by omega)
      have hQ : Q = (⟨4, ((rn 1 s1).1 : Int), 0, ru0, pr0⟩, ((rn 1 s1).2, false)) := by rw [HQ.out]; simp [kRd]
      obtain ⟨P1, hP1⟩ : ∃ p, p = rn 1 s1 := ⟨_, rfl⟩
      rw [← hP1] at hQ
      simp only [← hP1] at ha
      obtain ⟨x1, t1⟩ := P1
      simp only at ha hQ
      have hah := Lib.hid ha
      clear ha hP1
      have c1 : W.cell? ⟨n4, 1, none⟩ = some (.int .i64 0) := K4.cell 1
      have f0 := K4.frozen
      go_upto_region 26 with (go_at_call 94; refine (hah.out _ hR).mono ?_; rintro e w5 ⟨rfl, hR5, hG5⟩; have K45 := K4.grown hG5 (by simp; omega); have d1 : w5.cell? ⟨n4, 1, none⟩ = some (.int .i64 0) := K45.cell 1; have d2 : w5.cell? ⟨n4, 2, none⟩ = some (.int .i64 0) := K45.cell 2; have f5 := K45.frozen)
      have hbl1 := (Below.refl n4 w5).setCell (p := ⟨n4, 1, none⟩) (by simp) (.int .i64 (x1 : Int))
      have K4 : Bk (w5.setCell ⟨n4, 1, none⟩ (.int .i64 (x1 : Int))) n4 53 (orC ⟨4, (x1 : Int), 0, ru0, pr0⟩ none 0 0) := K45.set_ 1 _
      have K2 := (K2.grown hG5 (by simp; omega)).below hbl1 hn4
      have hR := hR5.up (hbl1.mono (by omega))
      have hG := gb_below (hG.trans hG5) (hbl1.mono (by omega))
      clear c0 c1 f0 d1 d2 f5 K45 hR5 hG5 hbl1
      generalize w5.setCell _ _ = W at K2 K4 hR hG ⊢
      have hld := K4.ld53 rfl
      have hst := st53 K2 rfl ⟨4, (x1 : Int), 0, ru0, pr0⟩ none 0 0
      have KF := setRow_heap W _ _ (orC ⟨4, (x1 : Int), 0, ru0, pr0⟩ none 0 0) _ _ K2
      have hbl := below_setRow (B := w.heap.size) (g := w.heap.size) (Below.refl _ W) (Nat.le_refl _) (orC ⟨4, (x1 : Int), 0, ru0, pr0⟩ none 0 0)
      have hSZ : (orC ⟨4, (x1 : Int), 0, ru0, pr0⟩ none 0 0).size = 21 := rfl
      have hfin : ToQ g s Q w (.returned (.tuple #[.agg (orC ⟨4, (x1 : Int), 0, ru0, pr0⟩ none 0 0), .bool true])) (W.setRow w.heap.size (orC ⟨4, (x1 : Int), 0, ru0, pr0⟩ none 0 0)) :=
        ⟨⟨4, (x1 : Int), 0, ru0, pr0⟩, none, 0, 0, true, rfl, (by rw [hQ]; exact fun _ => ⟨rfl, fun _ => rfl⟩), (by rw [hQ]; exact hR.up (hbl.mono (by omega))), (World.ownsRow_nil _ _ _ _), rfl, by omega, gb_below hG hbl⟩
      generalize (orC ⟨4, (x1 : Int), 0, ru0, pr0⟩ none 0 0) = R at hld hst KF hSZ hfin
      clear K4 K2 hbl
      go_wp2_with (first | ((with_reducible show wpList Try.prog _ _ (Oper.mk (some 70) _ _ _ _ _ :: _) _ _); refine wpL_load 53 (.tmp 4) (.pointer (some ⟨n4, 0, none⟩)) rfl rfl rfl hld ?_) | ((with_reducible show wpList Try.prog _ _ (Oper.mk none _ _ _ _ _ :: _) _ _); refine wpL_store 53 (.tmp 2) (.tmp 70) (.pointer (some ⟨w.heap.size, 0, none⟩)) (.agg R) rfl rfl rfl rfl hst ?_))
      refine bodyPost_ret (results_c rfl _ _ rfl KF hSZ) rfl ?_
      exact hfin
    · have ha := fun w9 h => rnum_any g 1 s1 w9 h (by omega)
      have hb := fun w9 h => rnum_any g 2 (rn 1 s1).2 w9 h (by omega)
      have hQ : Q = (⟨5, ((rn 1 s1).1 : Int), ((rn 2 (rn 1 s1).2).1 : Int), ru0, pr0⟩, ((rn 2 (rn 1 s1).2).2, false)) := by rw [HQ.out]; simp [kRd]
      obtain ⟨P1, hP1⟩ : ∃ p, p = rn 1 s1 := ⟨_, rfl⟩
      rw [← hP1] at hQ
      simp only [← hP1] at ha hb
      obtain ⟨P2, hP2⟩ : ∃ p, p = rn 2 P1.2 := ⟨_, rfl⟩
      rw [← hP2] at hQ
      simp only [← hP2] at hb
      obtain ⟨x2, t2⟩ := P2
      obtain ⟨x1, t1⟩ := P1
      simp only at ha hb hQ
      have hah := Lib.hid ha
      have hbh := Lib.hid hb
      clear ha hb hP1 hP2
      have c1 : W.cell? ⟨n4, 1, none⟩ = some (.int .i64 0) := K4.cell 1
      have f0 := K4.frozen
      go_upto_region 14 with (go_at_call 94; refine (hah.out _ hR).mono ?_; rintro e w5 ⟨rfl, hR5, hG5⟩; have K45 := K4.grown hG5 (by simp; omega); have d1 : w5.cell? ⟨n4, 1, none⟩ = some (.int .i64 0) := K45.cell 1; have d2 : w5.cell? ⟨n4, 2, none⟩ = some (.int .i64 0) := K45.cell 2; have f5 := K45.frozen)
      have hbl1 := (Below.refl n4 w5).setCell (p := ⟨n4, 1, none⟩) (by simp) (.int .i64 (x1 : Int))
      have K4 : Bk (w5.setCell ⟨n4, 1, none⟩ (.int .i64 (x1 : Int))) n4 53 (orC ⟨5, (x1 : Int), 0, ru0, pr0⟩ none 0 0) := K45.set_ 1 _
      have K2 := (K2.grown hG5 (by simp; omega)).below hbl1 hn4
      have hR := hR5.up (hbl1.mono (by omega))
      have hG := gb_below (hG.trans hG5) (hbl1.mono (by omega))
      clear c0 c1 f0 d1 d2 f5 K45 hR5 hG5 hbl1
      generalize w5.setCell _ _ = W at K2 K4 hR hG ⊢
      go_upto_region 26 with (go_at_call 94; refine (hbh.out _ hR).mono ?_; rintro e w6 ⟨rfl, hR6, hG6⟩; have K46 := K4.grown hG6 (by simp; omega); have d2 : w6.cell? ⟨n4, 2, none⟩ = some (.int .i64 0) := K46.cell 2; have f6 := K46.frozen)
      have hbl1 := (Below.refl n4 w6).setCell (p := ⟨n4, 2, none⟩) (by simp) (.int .i64 (x2 : Int))
      have K4 : Bk (w6.setCell ⟨n4, 2, none⟩ (.int .i64 (x2 : Int))) n4 53 (orC ⟨5, (x1 : Int), (x2 : Int), ru0, pr0⟩ none 0 0) := K46.set_ 2 _
      have K2 := (K2.grown hG6 (by simp; omega)).below hbl1 hn4
      have hR := hR6.up (hbl1.mono (by omega))
      have hG := gb_below (hG.trans hG6) (hbl1.mono (by omega))
      clear d2 f6 K46 hR6 hG6 hbl1
      generalize w6.setCell _ _ = W at K2 K4 hR hG ⊢
      have hld := K4.ld53 rfl
      have hst := st53 K2 rfl ⟨5, (x1 : Int), (x2 : Int), ru0, pr0⟩ none 0 0
      have KF := setRow_heap W _ _ (orC ⟨5, (x1 : Int), (x2 : Int), ru0, pr0⟩ none 0 0) _ _ K2
      have hbl := below_setRow (B := w.heap.size) (g := w.heap.size) (Below.refl _ W) (Nat.le_refl _) (orC ⟨5, (x1 : Int), (x2 : Int), ru0, pr0⟩ none 0 0)
      have hSZ : (orC ⟨5, (x1 : Int), (x2 : Int), ru0, pr0⟩ none 0 0).size = 21 := rfl
      have hfin : ToQ g s Q w (.returned (.tuple #[.agg (orC ⟨5, (x1 : Int), (x2 : Int), ru0, pr0⟩ none 0 0), .bool true])) (W.setRow w.heap.size (orC ⟨5, (x1 : Int), (x2 : Int), ru0, pr0⟩ none 0 0)) :=
        ⟨⟨5, (x1 : Int), (x2 : Int), ru0, pr0⟩, none, 0, 0, true, rfl, (by rw [hQ]; exact fun _ => ⟨rfl, fun _ => rfl⟩), (by rw [hQ]; exact hR.up (hbl.mono (by omega))), (World.ownsRow_nil _ _ _ _), rfl, by omega, gb_below hG hbl⟩
      generalize (orC ⟨5, (x1 : Int), (x2 : Int), ru0, pr0⟩ none 0 0) = R at hld hst KF hSZ hfin
      clear K4 K2 hbl
      go_wp2_with (first | ((with_reducible show wpList Try.prog _ _ (Oper.mk (some 70) _ _ _ _ _ :: _) _ _); refine wpL_load 53 (.tmp 4) (.pointer (some ⟨n4, 0, none⟩)) rfl rfl rfl hld ?_) | ((with_reducible show wpList Try.prog _ _ (Oper.mk none _ _ _ _ _ :: _) _ _); refine wpL_store 53 (.tmp 2) (.tmp 70) (.pointer (some ⟨w.heap.size, 0, none⟩)) (.agg R) rfl rfl rfl rfl hst ?_))
      refine bodyPost_ret (results_c rfl _ _ rfl KF hSZ) rfl ?_
      exact hfin
    · have ha := fun w9 h => rnum_any g 4 s1 w9 h (by omega)
      have hQ : Q = (⟨6, ((rn 4 s1).1 : Int), 0, ru0, pr0⟩, ((rn 4 s1).2, false)) := by rw [HQ.out]; simp [kRd]
      obtain ⟨P1, hP1⟩ : ∃ p, p = rn 4 s1 := ⟨_, rfl⟩
      rw [← hP1] at hQ
      simp only [← hP1] at ha
      obtain ⟨x1, t1⟩ := P1
      simp only at ha hQ
      have hah := Lib.hid ha
      clear ha hP1
      have c1 : W.cell? ⟨n4, 1, none⟩ = some (.int .i64 0) := K4.cell 1
      have f0 := K4.frozen
      go_upto_region 26 with (go_at_call 94; refine (hah.out _ hR).mono ?_; rintro e w5 ⟨rfl, hR5, hG5⟩; have K45 := K4.grown hG5 (by simp; omega); have d1 : w5.cell? ⟨n4, 1, none⟩ = some (.int .i64 0) := K45.cell 1; have d2 : w5.cell? ⟨n4, 2, none⟩ = some (.int .i64 0) := K45.cell 2; have f5 := K45.frozen)
      have hbl1 := (Below.refl n4 w5).setCell (p := ⟨n4, 1, none⟩) (by simp) (.int .i64 (x1 : Int))
      have K4 : Bk (w5.setCell ⟨n4, 1, none⟩ (.int .i64 (x1 : Int))) n4 53 (orC ⟨6, (x1 : Int), 0, ru0, pr0⟩ none 0 0) := K45.set_ 1 _
      have K2 := (K2.grown hG5 (by simp; omega)).below hbl1 hn4
      have hR := hR5.up (hbl1.mono (by omega))
      have hG := gb_below (hG.trans hG5) (hbl1.mono (by omega))
      clear c0 c1 f0 d1 d2 f5 K45 hR5 hG5 hbl1
      generalize w5.setCell _ _ = W at K2 K4 hR hG ⊢
      have hld := K4.ld53 rfl
      have hst := st53 K2 rfl ⟨6, (x1 : Int), 0, ru0, pr0⟩ none 0 0
      have KF := setRow_heap W _ _ (orC ⟨6, (x1 : Int), 0, ru0, pr0⟩ none 0 0) _ _ K2
      have hbl := below_setRow (B := w.heap.size) (g := w.heap.size) (Below.refl _ W) (Nat.le_refl _) (orC ⟨6, (x1 : Int), 0, ru0, pr0⟩ none 0 0)
      have hSZ : (orC ⟨6, (x1 : Int), 0, ru0, pr0⟩ none 0 0).size = 21 := rfl
      have hfin : ToQ g s Q w (.returned (.tuple #[.agg (orC ⟨6, (x1 : Int), 0, ru0, pr0⟩ none 0 0), .bool true])) (W.setRow w.heap.size (orC ⟨6, (x1 : Int), 0, ru0, pr0⟩ none 0 0)) :=
        ⟨⟨6, (x1 : Int), 0, ru0, pr0⟩, none, 0, 0, true, rfl, (by rw [hQ]; exact fun _ => ⟨rfl, fun _ => rfl⟩), (by rw [hQ]; exact hR.up (hbl.mono (by omega))), (World.ownsRow_nil _ _ _ _), rfl, by omega, gb_below hG hbl⟩
      generalize (orC ⟨6, (x1 : Int), 0, ru0, pr0⟩ none 0 0) = R at hld hst KF hSZ hfin
      clear K4 K2 hbl
      go_wp2_with (first | ((with_reducible show wpList Try.prog _ _ (Oper.mk (some 70) _ _ _ _ _ :: _) _ _); refine wpL_load 53 (.tmp 4) (.pointer (some ⟨n4, 0, none⟩)) rfl rfl rfl hld ?_) | ((with_reducible show wpList Try.prog _ _ (Oper.mk none _ _ _ _ _ :: _) _ _); refine wpL_store 53 (.tmp 2) (.tmp 70) (.pointer (some ⟨w.heap.size, 0, none⟩)) (.agg R) rfl rfl rfl rfl hst ?_))
      refine bodyPost_ret (results_c rfl _ _ rfl KF hSZ) rfl ?_
      exact hfin
    · have ha := fun w9 h => rnum_any g 4 s1 w9 h (by omega)
      have hb := fun w9 h => rnum_any g 2 (rn 4 s1).2 w9 h (by omega)
      have hQ : Q = (⟨7, ((rn 4 s1).1 : Int), ((rn 2 (rn 4 s1).2).1 : Int), ru0, pr0⟩, ((rn 2 (rn 4 s1).2).2, false)) := by rw [HQ.out]; simp [kRd]
      obtain ⟨P1, hP1⟩ : ∃ p, p = rn 4 s1 := ⟨_, rfl⟩
      rw [← hP1] at hQ
      simp only [← hP1] at ha hb
      obtain ⟨P2, hP2⟩ : ∃ p, p = rn 2 P1.2 := ⟨_, rfl⟩
      rw [← hP2] at hQ
      simp only [← hP2] at hb
      obtain ⟨x2, t2⟩ := P2
      obtain ⟨x1, t1⟩ := P1
      simp only at ha hb hQ
      have hah := Lib.hid ha
      have hbh := Lib.hid hb
      clear ha hb hP1 hP2
      have c1 : W.cell? ⟨n4, 1, none⟩ = some (.int .i64 0) := K4.cell 1
      have f0 := K4.frozen
      go_upto_region 19 with (go_at_call 94; refine (hah.out _ hR).mono ?_; rintro e w5 ⟨rfl, hR5, hG5⟩; have K45 := K4.grown hG5 (by simp; omega); have d1 : w5.cell? ⟨n4, 1, none⟩ = some (.int .i64 0) := K45.cell 1; have d2 : w5.cell? ⟨n4, 2, none⟩ = some (.int .i64 0) := K45.cell 2; have f5 := K45.frozen)
      have hbl1 := (Below.refl n4 w5).setCell (p := ⟨n4, 1, none⟩) (by simp) (.int .i64 (x1 : Int))
      have K4 : Bk (w5.setCell ⟨n4, 1, none⟩ (.int .i64 (x1 : Int))) n4 53 (orC ⟨7, (x1 : Int), 0, ru0, pr0⟩ none 0 0) := K45.set_ 1 _
      have K2 := (K2.grown hG5 (by simp; omega)).below hbl1 hn4
      have hR := hR5.up (hbl1.mono (by omega))
      have hG := gb_below (hG.trans hG5) (hbl1.mono (by omega))
      clear c0 c1 f0 d1 d2 f5 K45 hR5 hG5 hbl1
      generalize w5.setCell _ _ = W at K2 K4 hR hG ⊢
      go_upto_region 26 with (go_at_call 94; refine (hbh.out _ hR).mono ?_; rintro e w6 ⟨rfl, hR6, hG6⟩; have K46 := K4.grown hG6 (by simp; omega); have d2 : w6.cell? ⟨n4, 2, none⟩ = some (.int .i64 0) := K46.cell 2; have f6 := K46.frozen)
      have hbl1 := (Below.refl n4 w6).setCell (p := ⟨n4, 2, none⟩) (by simp) (.int .i64 (x2 : Int))
      have K4 : Bk (w6.setCell ⟨n4, 2, none⟩ (.int .i64 (x2 : Int))) n4 53 (orC ⟨7, (x1 : Int), (x2 : Int), ru0, pr0⟩ none 0 0) := K46.set_ 2 _
      have K2 := (K2.grown hG6 (by simp; omega)).below hbl1 hn4
      have hR := hR6.up (hbl1.mono (by omega))
      have hG := gb_below (hG.trans hG6) (hbl1.mono (by omega))
      clear d2 f6 K46 hR6 hG6 hbl1
      generalize w6.setCell _ _ = W at K2 K4 hR hG ⊢
      have hld := K4.ld53 rfl
      have hst := st53 K2 rfl ⟨7, (x1 : Int), (x2 : Int), ru0, pr0⟩ none 0 0
      have KF := setRow_heap W _ _ (orC ⟨7, (x1 : Int), (x2 : Int), ru0, pr0⟩ none 0 0) _ _ K2
      have hbl := below_setRow (B := w.heap.size) (g := w.heap.size) (Below.refl _ W) (Nat.le_refl _) (orC ⟨7, (x1 : Int), (x2 : Int), ru0, pr0⟩ none 0 0)
      have hSZ : (orC ⟨7, (x1 : Int), (x2 : Int), ru0, pr0⟩ none 0 0).size = 21 := rfl
      have hfin : ToQ g s Q w (.returned (.tuple #[.agg (orC ⟨7, (x1 : Int), (x2 : Int), ru0, pr0⟩ none 0 0), .bool true])) (W.setRow w.heap.size (orC ⟨7, (x1 : Int), (x2 : Int), ru0, pr0⟩ none 0 0)) :=
        ⟨⟨7, (x1 : Int), (x2 : Int), ru0, pr0⟩, none, 0, 0, true, rfl, (by rw [hQ]; exact fun _ => ⟨rfl, fun _ => rfl⟩), (by rw [hQ]; exact hR.up (hbl.mono (by omega))), (World.ownsRow_nil _ _ _ _), rfl, by omega, gb_below hG hbl⟩
      generalize (orC ⟨7, (x1 : Int), (x2 : Int), ru0, pr0⟩ none 0 0) = R at hld hst KF hSZ hfin
      clear K4 K2 hbl
      go_wp2_with (first | ((with_reducible show wpList Try.prog _ _ (Oper.mk (some 70) _ _ _ _ _ :: _) _ _); refine wpL_load 53 (.tmp 4) (.pointer (some ⟨n4, 0, none⟩)) rfl rfl rfl hld ?_) | ((with_reducible show wpList Try.prog _ _ (Oper.mk none _ _ _ _ _ :: _) _ _); refine wpL_store 53 (.tmp 2) (.tmp 70) (.pointer (some ⟨w.heap.size, 0, none⟩)) (.agg R) rfl rfl rfl rfl hst ?_))
      refine bodyPost_ret (results_c rfl _ _ rfl KF hSZ) rfl ?_
      exact hfin
    · have htx := Lib.hid (rrtext_any g s1 W hR)
      have hQ : Q = (⟨8, 0, 0, ru0, (rpF pr0 (s1, false)).1⟩, (rpF pr0 (s1, false)).2) := by rw [HQ.out]; simp [kRd]
      unfold rpF at hQ
      simp only at hQ
      obtain ⟨P1, hP1⟩ : ∃ p, p = rt s1 := ⟨_, rfl⟩
      have htx := htx.out
      rw [← hP1] at hQ htx
      obtain ⟨tx, s2⟩ := P1
      simp only at hQ htx
      have htxh := Lib.hid htx
      clear htx hP1
      go_upto_region 22 with (go_at_call 95; refine htxh.out.mono ?_; rintro e w5 ⟨A5, N5, c5, rfl, hO5, hR5, hG5⟩)
      have hER := Lib.hid (fun w9 (h : w9 = w5) => rerr_any g s2 w9 (h ▸ hR5))
      by_cases he : s2.2 = 0
      · have he1 : (s2.2 == 0) = true := by simpa using he
        rw [if_pos he] at hQ
        have hpp := rpparse_any A5 N5 c5 tx w5 hO5.by_ hO5.cap
        obtain ⟨p, hp⟩ : ∃ p, p = ppP tx := ⟨_, rfl⟩
        obtain ⟨E, hE⟩ : ∃ E, E = ppE tx := ⟨_, rfl⟩
        have hpp : Calls Try.prog 84 #[.slice A5 N5 c5] w5 fun e w' => e = .returned (.tuple #[.agg #[.int .i64 p.f, .int .i64 p.fp, .int .i64 p.t, .int .i64 p.tp, .int .i64 p.n], .int .i64 E]) ∧ Below w5.heap.size w5 w' := by rw [hp, hE]; exact hpp
        rw [← hp, ← hE] at hQ
        have hpph := Lib.hid hpp
        clear hpp hp hE
        have K45 := K4.grown hG5 (by simp; omega)
        go_upto_region 26 with (first | (go_at_call 104; refine (hER.out _ rfl).mono ?_; rintro e w1 ⟨rfl, rfl⟩) | (go_at_call 84; refine hpph.out.mono ?_; rintro e w6 ⟨rfl, hb6⟩; have K46 := (K45.kept hb6).alloc (.cells #[.int .i64 p.f, .int .i64 p.fp, .int .i64 p.t, .int .i64 p.tp, .int .i64 p.n] 23); have K47 := K45.kept hb6; have d16 : w6.cell? ⟨n4, 16, none⟩ = some (.int .i64 0) := K47.cell 16; have d17 : w6.cell? ⟨n4, 17, none⟩ = some (.int .i64 0) := K47.cell 17; have d18 : w6.cell? ⟨n4, 18, none⟩ = some (.int .i64 0) := K47.cell 18; have d19 : w6.cell? ⟨n4, 19, none⟩ = some (.int .i64 0) := K47.cell 19; have d20 : w6.cell? ⟨n4, 20, none⟩ = some (.int .i64 0) := K47.cell 20; have fz := K47.frozen; have hlt4 := K47.lt))
        clear hER htxh hpph
        have hn5 := K45.lt
        have hz6 := hb6.size
        have hbl5 := below5 (k := n4) (Below.refl n4 w6) (Nat.le_refl _) (.int .i64 p.f) (.int .i64 p.fp) (.int .i64 p.t) (.int .i64 p.tp) (.int .i64 p.n)
        have hRA : RdS 140 w6 g s2 := RdS.below hR5 hb6
        have hGA := gb_below (hG.trans hG5) (hb6.mono (B' := w.heap.size) (by omega))
        have K2A := ((K2.grown hG5 (by simp; omega)).kept hb6).far5 (k := n4) (by omega) (.int .i64 p.f) (.int .i64 p.fp) (.int .i64 p.t) (.int .i64 p.tp) (.int .i64 p.n)
        have K4A := ((((K47.set_ 16 (.int .i64 p.f)).set_ 17 (.int .i64 p.fp)).set_ 18 (.int .i64 p.t)).set_ 19 (.int .i64 p.tp)).set_ 20 (.int .i64 p.n)
        have K4B : Bk (((((w6.setCell ⟨n4, 16, none⟩ (.int .i64 p.f)).setCell ⟨n4, 17, none⟩ (.int .i64 p.fp)).setCell ⟨n4, 18, none⟩ (.int .i64 p.t)).setCell ⟨n4, 19, none⟩ (.int .i64 p.tp)).setCell ⟨n4, 20, none⟩ (.int .i64 p.n)) n4 53 (orC ⟨8, 0, 0, ru0, p⟩ none 0 0) := K4A
        have hRB := hRA.up (hbl5.mono (by omega))
        have hGB := gb_below hGA (hbl5.mono (by omega))
        have hbz := hbl5.size
        have K4 := K4B.alloc (.cells #[.int .i64 p.f, .int .i64 p.fp, .int .i64 p.t, .int .i64 p.tp, .int .i64 p.n] 23)
        have K2 := K2A.alloc (.cells #[.int .i64 p.f, .int .i64 p.fp, .int .i64 p.t, .int .i64 p.tp, .int .i64 p.n] 23)
        have hR : RdS 140 ((((((w6.setCell ⟨n4, 16, none⟩ (.int .i64 p.f)).setCell ⟨n4, 17, none⟩ (.int .i64 p.fp)).setCell ⟨n4, 18, none⟩ (.int .i64 p.t)).setCell ⟨n4, 19, none⟩ (.int .i64 p.tp)).setCell ⟨n4, 20, none⟩ (.int .i64 p.n)).alloc (.cells #[.int .i64 p.f, .int .i64 p.fp, .int .i64 p.t, .int .i64 p.tp, .int .i64 p.n] 23)) g s2 := RdS.below hRB ((Below.refl _ (((((w6.setCell ⟨n4, 16, none⟩ (.int .i64 p.f)).setCell ⟨n4, 17, none⟩ (.int .i64 p.fp)).setCell ⟨n4, 18, none⟩ (.int .i64 p.t)).setCell ⟨n4, 19, none⟩ (.int .i64 p.tp)).setCell ⟨n4, 20, none⟩ (.int .i64 p.n))).push (.cells #[.int .i64 p.f, .int .i64 p.fp, .int .i64 p.t, .int .i64 p.tp, .int .i64 p.n] 23))
        have hG := gb_below hGB ((Below.refl w.heap.size (((((w6.setCell ⟨n4, 16, none⟩ (.int .i64 p.f)).setCell ⟨n4, 17, none⟩ (.int .i64 p.fp)).setCell ⟨n4, 18, none⟩ (.int .i64 p.t)).setCell ⟨n4, 19, none⟩ (.int .i64 p.tp)).setCell ⟨n4, 20, none⟩ (.int .i64 p.n))).alloc (by omega) (.cells #[.int .i64 p.f, .int .i64 p.fp, .int .i64 p.t, .int .i64 p.tp, .int .i64 p.n] 23))
        clear K4A K4B hRB hGB hbz
        clear K46 K47 d16 d17 d18 d19 d20 fz hlt4 hb6 hG5 hRA hGA K2A hbl5 K45 hn5 hz6 hR5 hO5 c0
        generalize (((((w6.setCell ⟨n4, 16, none⟩ (.int .i64 p.f)).setCell ⟨n4, 17, none⟩ (.int .i64 p.fp)).setCell ⟨n4, 18, none⟩ (.int .i64 p.t)).setCell ⟨n4, 19, none⟩ (.int .i64 p.tp)).setCell ⟨n4, 20, none⟩ (.int .i64 p.n)).alloc (.cells #[.int .i64 p.f, .int .i64 p.fp, .int .i64 p.t, .int .i64 p.tp, .int .i64 p.n] 23) = W at K4 K2 hR hG ⊢
        have hld := K4.ld53 rfl
        have hst := st53 K2 rfl ⟨8, 0, 0, ru0, p⟩ none 0 0
        have KF := setRow_heap W _ _ (orC ⟨8, 0, 0, ru0, p⟩ none 0 0) _ _ K2
        have hbl := below_setRow (B := w.heap.size) (g := w.heap.size) (Below.refl _ W) (Nat.le_refl _) (orC ⟨8, 0, 0, ru0, p⟩ none 0 0)
        have hSZ : (orC ⟨8, 0, 0, ru0, p⟩ none 0 0).size = 21 := rfl
        have hfin : ToQ g s Q w (.returned (.tuple #[.agg (orC ⟨8, 0, 0, ru0, p⟩ none 0 0), .bool (E == 0)])) (W.setRow w.heap.size (orC ⟨8, 0, 0, ru0, p⟩ none 0 0)) :=
          ⟨⟨8, 0, 0, ru0, p⟩, none, 0, 0, (E == 0), rfl, (by rw [hQ]; exact fun _ => ⟨by simp [bne], fun _ => rfl⟩), (by rw [hQ]; exact hR.up (hbl.mono (by omega))), (World.ownsRow_nil _ _ _ _), rfl, by omega, gb_below hG hbl⟩
        generalize (orC ⟨8, 0, 0, ru0, p⟩ none 0 0) = R at hld hst KF hSZ hfin
        clear K4 K2 hbl
        go_wp2_with (first | ((with_reducible show wpList Try.prog _ _ (Oper.mk (some 70) _ _ _ _ _ :: _) _ _); refine wpL_load 53 (.tmp 4) (.pointer (some ⟨n4, 0, none⟩)) rfl rfl rfl hld ?_) | ((with_reducible show wpList Try.prog _ _ (Oper.mk none _ _ _ _ _ :: _) _ _); refine wpL_store 53 (.tmp 2) (.tmp 70) (.pointer (some ⟨w.heap.size, 0, none⟩)) (.agg R) rfl rfl rfl rfl hst ?_))
        refine bodyPost_ret (results_c rfl _ _ rfl KF hSZ) rfl ?_
        exact hfin
      · have he1 : (s2.2 == 0) = false := by simpa using he
        rw [if_neg he] at hQ
        go_upto_region 26 with (go_at_call 104; refine (hER.out _ rfl).mono ?_; rintro e w1 ⟨rfl, rfl⟩)
        have K4 := K4.grown hG5 (by simp; omega)
        have K2 := K2.grown hG5 (by simp; omega)
        have hG := hG.trans hG5
        have hR := hR5
        clear hER htxh hO5 hR5 hG5 c0
        generalize w5 = W at K4 K2 hR hG ⊢
        have hld := K4.ld53 rfl
        have hst := st53 K2 rfl ⟨8, 0, 0, ru0, pr0⟩ none 0 0
        have KF := setRow_heap W _ _ (orC ⟨8, 0, 0, ru0, pr0⟩ none 0 0) _ _ K2
        have hbl := below_setRow (B := w.heap.size) (g := w.heap.size) (Below.refl _ W) (Nat.le_refl _) (orC ⟨8, 0, 0, ru0, pr0⟩ none 0 0)
        have hSZ : (orC ⟨8, 0, 0, ru0, pr0⟩ none 0 0).size = 21 := rfl
        have hfin : ToQ g s Q w (.returned (.tuple #[.agg (orC ⟨8, 0, 0, ru0, pr0⟩ none 0 0), .bool true])) (W.setRow w.heap.size (orC ⟨8, 0, 0, ru0, pr0⟩ none 0 0)) :=
          ⟨⟨8, 0, 0, ru0, pr0⟩, none, 0, 0, true, rfl, (by rw [hQ]; exact fun h => absurd h he), (by rw [hQ]; exact hR.up (hbl.mono (by omega))), (World.ownsRow_nil _ _ _ _), rfl, by omega, gb_below hG hbl⟩
        generalize (orC ⟨8, 0, 0, ru0, pr0⟩ none 0 0) = R at hld hst KF hSZ hfin
        clear K4 K2 hbl
        go_wp2_with (first | ((with_reducible show wpList Try.prog _ _ (Oper.mk (some 70) _ _ _ _ _ :: _) _ _); refine wpL_load 53 (.tmp 4) (.pointer (some ⟨n4, 0, none⟩)) rfl rfl rfl hld ?_) | ((with_reducible show wpList Try.prog _ _ (Oper.mk none _ _ _ _ _ :: _) _ _); refine wpL_store 53 (.tmp 2) (.tmp 70) (.pointer (some ⟨w.heap.size, 0, none⟩)) (.agg R) rfl rfl rfl rfl hst ?_))
        refine bodyPost_ret (results_c rfl _ _ rfl KF hSZ) rfl ?_
        exact hfin
    · have ha := fun w9 h => rnum_any g 1 s1 w9 h (by omega)
      have hb := fun w9 h => rnum_any g 1 (rn 1 s1).2 w9 h (by omega)
      have hQ : Q = (⟨9, ((rn 1 s1).1 : Int), ((rn 1 (rn 1 s1).2).1 : Int), ru0, pr0⟩, ((rn 1 (rn 1 s1).2).2, false)) := by rw [HQ.out]; simp [kRd]
      obtain ⟨P1, hP1⟩ : ∃ p, p = rn 1 s1 := ⟨_, rfl⟩
      rw [← hP1] at hQ
      simp only [← hP1] at ha hb
      obtain ⟨P2, hP2⟩ : ∃ p, p = rn 1 P1.2 := ⟨_, rfl⟩
      rw [← hP2] at hQ
      simp only [← hP2] at hb
      obtain ⟨x2, t2⟩ := P2
      obtain ⟨x1, t1⟩ := P1
      simp only at ha hb hQ
      have hah := Lib.hid ha
      have hbh := Lib.hid hb
      clear ha hb hP1 hP2
      have c1 : W.cell? ⟨n4, 1, none⟩ = some (.int .i64 0) := K4.cell 1
      have f0 := K4.frozen
      go_upto_region 11 with (go_at_call 94; refine (hah.out _ hR).mono ?_; rintro e w5 ⟨rfl, hR5, hG5⟩; have K45 := K4.grown hG5 (by simp; omega); have d1 : w5.cell? ⟨n4, 1, none⟩ = some (.int .i64 0) := K45.cell 1; have d2 : w5.cell? ⟨n4, 2, none⟩ = some (.int .i64 0) := K45.cell 2; have f5 := K45.frozen)
      have hbl1 := (Below.refl n4 w5).setCell (p := ⟨n4, 1, none⟩) (by simp) (.int .i64 (x1 : Int))
      have K4 : Bk (w5.setCell ⟨n4, 1, none⟩ (.int .i64 (x1 : Int))) n4 53 (orC ⟨9, (x1 : Int), 0, ru0, pr0⟩ none 0 0) := K45.set_ 1 _
      have K2 := (K2.grown hG5 (by simp; omega)).below hbl1 hn4
      have hR := hR5.up (hbl1.mono (by omega))
      have hG := gb_below (hG.trans hG5) (hbl1.mono (by omega))
      clear c0 c1 f0 d1 d2 f5 K45 hR5 hG5 hbl1
      generalize w5.setCell _ _ = W at K2 K4 hR hG ⊢
      go_upto_region 26 with (go_at_call 94; refine (hbh.out _ hR).mono ?_; rintro e w6 ⟨rfl, hR6, hG6⟩; have K46 := K4.grown hG6 (by simp; omega); have d2 : w6.cell? ⟨n4, 2, none⟩ = some (.int .i64 0) := K46.cell 2; have f6 := K46.frozen)
      have hbl1 := (Below.refl n4 w6).setCell (p := ⟨n4, 2, none⟩) (by simp) (.int .i64 (x2 : Int))
      have K4 : Bk (w6.setCell ⟨n4, 2, none⟩ (.int .i64 (x2 : Int))) n4 53 (orC ⟨9, (x1 : Int), (x2 : Int), ru0, pr0⟩ none 0 0) := K46.set_ 2 _
      have K2 := (K2.grown hG6 (by simp; omega)).below hbl1 hn4
      have hR := hR6.up (hbl1.mono (by omega))
      have hG := gb_below (hG.trans hG6) (hbl1.mono (by omega))
      clear d2 f6 K46 hR6 hG6 hbl1
      generalize w6.setCell _ _ = W at K2 K4 hR hG ⊢
      have hld := K4.ld53 rfl
      have hst := st53 K2 rfl ⟨9, (x1 : Int), (x2 : Int), ru0, pr0⟩ none 0 0
      have KF := setRow_heap W _ _ (orC ⟨9, (x1 : Int), (x2 : Int), ru0, pr0⟩ none 0 0) _ _ K2
      have hbl := below_setRow (B := w.heap.size) (g := w.heap.size) (Below.refl _ W) (Nat.le_refl _) (orC ⟨9, (x1 : Int), (x2 : Int), ru0, pr0⟩ none 0 0)
      have hSZ : (orC ⟨9, (x1 : Int), (x2 : Int), ru0, pr0⟩ none 0 0).size = 21 := rfl
      have hfin : ToQ g s Q w (.returned (.tuple #[.agg (orC ⟨9, (x1 : Int), (x2 : Int), ru0, pr0⟩ none 0 0), .bool true])) (W.setRow w.heap.size (orC ⟨9, (x1 : Int), (x2 : Int), ru0, pr0⟩ none 0 0)) :=
        ⟨⟨9, (x1 : Int), (x2 : Int), ru0, pr0⟩, none, 0, 0, true, rfl, (by rw [hQ]; exact fun _ => ⟨rfl, fun _ => rfl⟩), (by rw [hQ]; exact hR.up (hbl.mono (by omega))), (World.ownsRow_nil _ _ _ _), rfl, by omega, gb_below hG hbl⟩
      generalize (orC ⟨9, (x1 : Int), (x2 : Int), ru0, pr0⟩ none 0 0) = R at hld hst KF hSZ hfin
      clear K4 K2 hbl
      go_wp2_with (first | ((with_reducible show wpList Try.prog _ _ (Oper.mk (some 70) _ _ _ _ _ :: _) _ _); refine wpL_load 53 (.tmp 4) (.pointer (some ⟨n4, 0, none⟩)) rfl rfl rfl hld ?_) | ((with_reducible show wpList Try.prog _ _ (Oper.mk none _ _ _ _ _ :: _) _ _); refine wpL_store 53 (.tmp 2) (.tmp 70) (.pointer (some ⟨w.heap.size, 0, none⟩)) (.agg R) rfl rfl rfl rfl hst ?_))
      refine bodyPost_ret (results_c rfl _ _ rfl KF hSZ) rfl ?_
      exact hfin
  · have e2 : (k == 2) = false := by simp; omega
    have e3 : (k == 3) = false := by simp; omega
    have e4 : (k == 4) = false := by simp; omega
    have e5 : (k == 5) = false := by simp; omega
    have e6 : (k == 6) = false := by simp; omega
    have e7 : (k == 7) = false := by simp; omega
    have e8 : (k == 8) = false := by simp; omega
    have e9 : (k == 9) = false := by simp; omega
    have hQ : Q = (⟨k, 0, 0, ru0, pr0⟩, (s1, false)) := by
      rw [HQ.out]
      unfold kRd
      rw [if_neg (by omega), if_neg (by omega), if_neg (by omega), if_neg (by omega), if_neg (by omega), if_neg (by omega), if_neg (by omega)]
    go_upto_region 26 with fail
    clear c0
    have hld := K4.ld53 rfl
    have hst := st53 K2 rfl ⟨k, 0, 0, ru0, pr0⟩ none 0 0
    have KF := setRow_heap W _ _ (orC ⟨k, 0, 0, ru0, pr0⟩ none 0 0) _ _ K2
    have hbl := below_setRow (B := w.heap.size) (g := w.heap.size) (Below.refl _ W) (Nat.le_refl _) (orC ⟨k, 0, 0, ru0, pr0⟩ none 0 0)
    have hSZ : (orC ⟨k, 0, 0, ru0, pr0⟩ none 0 0).size = 21 := rfl
    have hfin : ToQ g s Q w (.returned (.tuple #[.agg (orC ⟨k, 0, 0, ru0, pr0⟩ none 0 0), .bool true])) (W.setRow w.heap.size (orC ⟨k, 0, 0, ru0, pr0⟩ none 0 0)) :=
      ⟨⟨k, 0, 0, ru0, pr0⟩, none, 0, 0, true, rfl, (by rw [hQ]; exact fun _ => ⟨rfl, fun _ => rfl⟩), (by rw [hQ]; exact hR.up (hbl.mono (by omega))), (World.ownsRow_nil _ _ _ _), rfl, by omega, gb_below hG hbl⟩
    generalize (orC ⟨k, 0, 0, ru0, pr0⟩ none 0 0) = R at hld hst KF hSZ hfin
    clear K4 K2 hbl
    go_wp2_with (first | ((with_reducible show wpList Try.prog _ _ (Oper.mk (some 70) _ _ _ _ _ :: _) _ _); refine wpL_load 53 (.tmp 4) (.pointer (some ⟨n4, 0, none⟩)) rfl rfl rfl hld ?_) | ((with_reducible show wpList Try.prog _ _ (Oper.mk none _ _ _ _ _ :: _) _ _); refine wpL_store 53 (.tmp 2) (.tmp 70) (.pointer (some ⟨w.heap.size, 0, none⟩)) (.agg R) rfl rfl rfl rfl hst ?_))
    refine bodyPost_ret (results_c rfl _ _ rfl KF hSZ) rfl ?_
    exact hfin

def RpQ (V : Or6) (E : Int) (w : World) (e : Ending) (w' : World) : Prop := ∃ A' L c', e = .returned (.tuple #[.agg (orC V A' L c'), .int .i64 E]) ∧ Ou w' w'.heap.size A' L V.r.os ∧ L ≤ 255 ∧ Below w.heap.size w w'
theorem rparse_any (A : Option Addr) (N c : Nat) (l : List UInt8) (w : World) (hl : By w w.heap.size A N l) (hN : N ≤ 140737488355328) :
    Calls Try.prog 55 #[.slice A N c] w (RpQ (orV l) (orE l) w) := by
  obtain ⟨VV, hVV⟩ : ∃ x, x = orV l := ⟨_, rfl⟩
  obtain ⟨EE, hEE⟩ : ∃ x, x = orE l := ⟨_, rfl⟩
  rw [← hVV, ← hEE]
  have HV := Lib.hid hVV
  have HE := Lib.hid hEE
  clear hVV hEE
  have K2 := Bk.new w 53 (orC or0 none 0 0)
  have hb := (Below.refl w.heap.size w).push (.cells (orC or0 none 0 0) 53)
  have hlw := hl.boxed (.cells (orC or0 none 0 0) 53)
  have hal := alloc53 w
  have hsz : (w.alloc (.cells (orC or0 none 0 0) 53)).heap.size = w.heap.size + 1 := World.size_alloc _ _
  go_enter Try.func55, Try.ntmps55
  go_upto_region 1 with ((with_reducible show wpList Try.prog _ _ (Oper.mk (some 2) _ _ _ _ _ :: _) _ _); refine wpL_alloc 53 rfl rfl hal ?_)
  clear hal hl
  generalize w.alloc _ = W at K2 hb hlw hsz ⊢
  have hrd := Lib.hid (rread_any A N c l W hlw hN)
  go_upto_region 2 with (go_at_call 93; refine hrd.out.mono ?_; rintro e w1 ⟨g, rfl, hR1, hg1, hb1⟩)
  have K2 := K2.kept hb1
  have hb := hb.next hb1
  have hz1 := hb1.size
  have hg : w.heap.size + 1 ≤ g := by omega
  have hgl := hR1.lt
  clear hrd hb1 hlw
  have htk := rtakeo_any g (l, 0) w1 hR1
  have hEQ : orE l = orE' (orQ l) := rfl
  have hVQ : orV l = if orE l = 0 then (orQ l).1 else or0 := rfl
  have htk : Calls Try.prog 103 #[.pointer (some ⟨g, 0, none⟩)] w1 (ToQ g (l, 0) (orQ l) w1) := htk
  generalize orQ l = Q at htk hEQ hVQ
  have htkh := Lib.hid htk
  clear htk hR1
  go_upto_region 3 with (first | (go_at_call 103; refine htkh.out.mono ?_; rintro e w3 ⟨o, A3, L3, c3, f, rfl, hi3, hR3, hO3, hl3, hL3, hG3⟩; have hal := alloc53 w3; have hst := vst53 w3 o A3 L3 c3) | ((with_reducible show wpList Try.prog _ _ (Oper.mk (some 5) _ _ _ _ _ :: _) _ _); refine wpL_alloc 53 rfl rfl hal ?_) | ((with_reducible show wpList Try.prog _ _ (Oper.mk none _ _ _ _ _ :: _) _ _); refine wpL_store 53 (.tmp 5) (.tmp 12) _ (.agg (orC o A3 L3 c3)) rfl rfl rfl rfl hst ?_))
  clear hal hst htkh
  have hz3 := hG3.size
  have K2 := (K2.grown hG3 (by simp; omega)).alloc (.cells (orC o A3 L3 c3) 53)
  have hb := (hb.grown hG3 (by omega) (fun j hj => by have := Option.some.inj hj; omega)).push (.cells (orC o A3 L3 c3) 53)
  have K5 := Bk.new w3 53 (orC o A3 L3 c3)
  have hR : RdS 140 (w3.alloc (.cells (orC o A3 L3 c3) 53)) g Q.2.1 := RdS.below hR3 ((Below.refl _ w3).push (.cells (orC o A3 L3 c3) 53))
  have hO := World.ownsRow.alloc hO3 (.cells (orC o A3 L3 c3) 53)
  have hn5 : w.heap.size < w3.heap.size := by omega
  have hbw1 : w.heap.size < w1.heap.size := by omega
  clear hG3 hR3 hO3 hz3
  generalize w3.heap.size = n5 at K5 hn5 ⊢
  generalize w3.alloc _ = W at K2 hb K5 hR hO ⊢
  obtain ⟨qo, s, odd⟩ := Q
  simp only at hR hi3 hVQ
  have hers := Lib.hid (fun w9 (h : w9 = W) => rerr_any g s w9 (h ▸ hR))
  have hens := Lib.hid (fun w9 (h : w9 = W) => rend_any g s w9 (h ▸ hR))
  obtain ⟨E, hE⟩ : ∃ E, E = s.2 := ⟨_, rfl⟩
  obtain ⟨F, hF⟩ : ∃ F, F = endE s := ⟨_, rfl⟩
  rw [← hE] at hers hi3
  rw [← hF] at hens
  have hEo : orE' (qo, s, odd) = if E ≠ 0 then E else if odd = false ∧ F = 0 ∧ orB qo = true then 0 else 4 := by rw [hE, hF]; rfl
  clear hE hF
  rw [hEo] at hEQ
  clear hEo
  have hst0 := st53 K2 rfl or0 none 0 0
  rw [setRow_self _ _ _ _ _ K2] at hst0
  have hbd := bld53 W
  by_cases hE0 : E = 0
  · subst hE0
    simp only [ne_eq, not_true_eq_false, if_false] at hEQ
    obtain ⟨hf, hoq⟩ := hi3 rfl
    subst hf
    rcases odd with _ | _
    · have hoo := hoq rfl
      subst hoo
      simp only [true_and] at hEQ
      have hld : (Instr.loadAt 53 (.pointer (some ⟨n5, 0, none⟩))).run Try.prog W = .ok (.agg (orC o A3 L3 c3)) W := K5.ld53 rfl
      have hck := rcheck_any o A3 L3 c3 W (Rd.of_own hO) (by omega)
      by_cases hF0 : F = 0
      · subst hF0
        simp only [true_and] at hEQ
        obtain ⟨q, hq⟩ : ∃ q, q = orB o := ⟨_, rfl⟩
        rw [← hq] at hEQ hck
        have hckh := Lib.hid hck
        clear hck hq
        cases q
        · simp only [Bool.false_eq_true, if_false] at hEQ
          rw [hEQ, if_neg (by decide)] at hVQ
          rw [hEQ] at HE
          rw [hVQ] at HV
          clear hEQ hVQ
          go_upto_region 6 with (first | (go_at_call 104; refine (hers.out _ rfl).mono ?_; rintro e w9 ⟨rfl, rfl⟩) | (go_at_call 96; refine (hens.out _ rfl).mono ?_; rintro e w9 ⟨rfl, rfl⟩) | (go_at_call 50; refine hckh.out.mono ?_; rintro e w10 ⟨rfl, hb10⟩; simp only [erB, Bool.false_eq_true, if_false]) | ((with_reducible show wpList Try.prog _ _ (Oper.mk (some 28) _ _ _ _ _ :: _) _ _); refine wpL_loadG 53 (.tmp 5) (.pointer (some ⟨n5, 0, none⟩)) (by rfl) rfl rfl hld ?_))
          have K2 := K2.kept hb10
          have hst0 := st53 K2 rfl or0 none 0 0
          rw [setRow_self _ _ _ _ _ K2] at hst0
          have hbd := bld53 w10
          clear hld
          go_wp2_with (first | ((with_reducible show wpList Try.prog _ _ (Oper.mk (some 32) _ _ _ _ _ :: _) _ _); refine wpL_bld0 53 rfl rfl hbd ?_) | ((with_reducible show wpList Try.prog _ _ (Oper.mk none _ _ _ _ _ :: _) _ _); refine wpL_store 53 (.tmp 2) (.tmp 32) (.pointer (some ⟨w.heap.size, 0, none⟩)) (.agg (orC or0 none 0 0)) rfl rfl rfl rfl hst0 ?_))
          refine bodyPost_ret (results_c rfl _ _ rfl K2 rfl) rfl ?_
          refine ⟨none, 0, 0, ?_, ?_, by omega, hb.next hb10⟩
          · rw [HE.out, HV.out]; rfl
          · rw [HV.out]; exact Ou.empty
        · simp only [if_true] at hEQ
          rw [hEQ, if_pos rfl] at hVQ
          rw [hEQ] at HE
          rw [hVQ] at HV
          clear hEQ hVQ
          go_upto_region 7 with (first | (go_at_call 104; refine (hers.out _ rfl).mono ?_; rintro e w9 ⟨rfl, rfl⟩) | (go_at_call 96; refine (hens.out _ rfl).mono ?_; rintro e w9 ⟨rfl, rfl⟩) | (go_at_call 50; refine hckh.out.mono ?_; rintro e w10 ⟨rfl, hb10⟩; simp only [erB, if_true]) | ((with_reducible show wpList Try.prog _ _ (Oper.mk (some 28) _ _ _ _ _ :: _) _ _); refine wpL_loadG 53 (.tmp 5) (.pointer (some ⟨n5, 0, none⟩)) (by rfl) rfl rfl hld ?_))
          have K2 := K2.kept hb10
          have K5 := K5.kept hb10
          have hO := own_below hO hb10
          have hld : (Instr.loadAt 53 (.pointer (some ⟨n5, 0, none⟩))).run Try.prog w10 = .ok (.agg (orC o A3 L3 c3)) w10 := K5.ld53 rfl
          have hst := st53 K2 rfl o A3 L3 c3
          have KF := setRow_heap w10 _ _ (orC o A3 L3 c3) _ _ K2
          have hbS := below_setRow (hb.next hb10) (Nat.le_refl _) (orC o A3 L3 c3)
          have hO := own_heap (w' := w10.setRow w.heap.size (orC o A3 L3 c3)) hO fun g9 hg9 _ => setRow_other w10 _ _ _ (by omega)
          clear hst0 hbd
          go_wp2_with (first | ((with_reducible show wpList Try.prog _ _ (Oper.mk (some 33) _ _ _ _ _ :: _) _ _); refine wpL_load 53 (.tmp 5) (.pointer (some ⟨n5, 0, none⟩)) rfl rfl rfl hld ?_) | ((with_reducible show wpList Try.prog _ _ (Oper.mk none _ _ _ _ _ :: _) _ _); refine wpL_store 53 (.tmp 2) (.tmp 33) (.pointer (some ⟨w.heap.size, 0, none⟩)) (.agg (orC o A3 L3 c3)) rfl rfl rfl rfl hst ?_))
          refine bodyPost_ret (results_c rfl _ _ rfl KF rfl) rfl ?_
          refine ⟨A3, L3, c3, ?_, ?_, hL3, hbS⟩
          · rw [HE.out, HV.out]; rfl
          · rw [HV.out]; exact Rd.of_own hO
      · have hF1 : (F != 0) = true := by simpa using hF0
        rw [if_neg (fun h => hF0 h.1)] at hEQ
        rw [hEQ, if_neg (by decide)] at hVQ
        rw [hEQ] at HE
        rw [hVQ] at HV
        clear hEQ hVQ hck hld
        go_wp2_with (first | (go_at_call 104; refine (hers.out _ rfl).mono ?_; rintro e w9 ⟨rfl, rfl⟩) | (go_at_call 96; refine (hens.out _ rfl).mono ?_; rintro e w9 ⟨rfl, rfl⟩) | ((with_reducible show wpList Try.prog _ _ (Oper.mk (some 32) _ _ _ _ _ :: _) _ _); refine wpL_bld0 53 rfl rfl hbd ?_) | ((with_reducible show wpList Try.prog _ _ (Oper.mk none _ _ _ _ _ :: _) _ _); refine wpL_store 53 (.tmp 2) (.tmp 32) (.pointer (some ⟨w.heap.size, 0, none⟩)) (.agg (orC or0 none 0 0)) rfl rfl rfl rfl hst0 ?_))
        refine bodyPost_ret (results_c rfl _ _ rfl K2 rfl) rfl ?_
        refine ⟨none, 0, 0, ?_, ?_, by omega, hb⟩
        · rw [HE.out, HV.out]; rfl
        · rw [HV.out]; exact Ou.empty
    · rw [if_neg (fun h => by cases h.1)] at hEQ
      rw [hEQ, if_neg (by decide)] at hVQ
      rw [hEQ] at HE
      rw [hVQ] at HV
      clear hEQ hVQ
      simp only [Bool.not_true]
      go_wp2_with (first | (go_at_call 104; refine (hers.out _ rfl).mono ?_; rintro e w9 ⟨rfl, rfl⟩) | ((with_reducible show wpList Try.prog _ _ (Oper.mk (some 32) _ _ _ _ _ :: _) _ _); refine wpL_bld0 53 rfl rfl hbd ?_) | ((with_reducible show wpList Try.prog _ _ (Oper.mk none _ _ _ _ _ :: _) _ _); refine wpL_store 53 (.tmp 2) (.tmp 32) (.pointer (some ⟨w.heap.size, 0, none⟩)) (.agg (orC or0 none 0 0)) rfl rfl rfl rfl hst0 ?_))
      refine bodyPost_ret (results_c rfl _ _ rfl K2 rfl) rfl ?_
      refine ⟨none, 0, 0, ?_, ?_, by omega, hb⟩
      · rw [HE.out, HV.out]; rfl
      · rw [HV.out]; exact Ou.empty
  · have hE1 : (E != 0) = true := by simpa using hE0
    rw [if_pos hE0] at hEQ
    rw [hEQ, if_neg hE0] at hVQ
    rw [hEQ] at HE
    rw [hVQ] at HV
    clear hEQ hVQ hi3
    go_wp2_with (first | (go_at_call 104; refine (hers.out _ rfl).mono ?_; rintro e w9 ⟨rfl, rfl⟩) | ((with_reducible show wpList Try.prog _ _ (Oper.mk (some 17) _ _ _ _ _ :: _) _ _); refine wpL_bld0 53 rfl rfl hbd ?_) | ((with_reducible show wpList Try.prog _ _ (Oper.mk none _ _ _ _ _ :: _) _ _); refine wpL_store 53 (.tmp 2) (.tmp 17) (.pointer (some ⟨w.heap.size, 0, none⟩)) (.agg (orC or0 none 0 0)) rfl rfl rfl rfl hst0 ?_))
    refine bodyPost_ret (results_c rfl _ _ rfl K2 rfl) rfl ?_
    refine ⟨none, 0, 0, ?_, ?_, by omega, hb⟩
    · rw [HE.out, HV.out]; rfl
    · rw [HV.out]; exact Ou.empty

theorem rsame_ord (o : Or6) (A A2 : Option Addr) (N c c2 : Nat) (w : World) (hl : Ou w w.heap.size A N o.r.os) (hl2 : Ou w w.heap.size A2 N o.r.os) (hN : N ≤ 1000) :
    Calls Try.prog 51 #[.agg (orC o A N c), .agg (orC o A2 N c2)] w fun e w' => e = .returned (.bool true) ∧ Below w.heap.size w w' := by
  have K := (Bk.new w 53 (orC o A N c)).alloc (.cells (orC o A2 N c2) 53)
  have K2 := Bk.newAt' (w := w.alloc (.cells (orC o A N c) 53)) 53 (orC o A2 N c2) (World.size_alloc _ _)
  have hb := ((Below.refl w.heap.size w).push (.cells (orC o A N c) 53)).push (.cells (orC o A2 N c2) 53)
  have hlw := (hl.boxed (.cells (orC o A N c) 53)).boxed (.cells (orC o A2 N c2) 53)
  have hlw2 := (hl2.boxed (.cells (orC o A N c) 53)).boxed (.cells (orC o A2 N c2) 53)
  have hs1 : (w.alloc (.cells (orC o A N c) 53)).heap.size = w.heap.size + 1 := World.size_alloc _ _
  obtain ⟨V, hV⟩ : ∃ V, V = Value.agg (orC o A N c) := ⟨_, rfl⟩
  obtain ⟨V2, hV2⟩ : ∃ V, V = Value.agg (orC o A2 N c2) := ⟨_, rfl⟩
  rw [← hV, ← hV2]
  have hbx : (Instr.box 53 V).run Try.prog w = .ok (.pointer (some ⟨w.heap.size, 0, none⟩)) (w.alloc (.cells (orC o A N c) 53)) := by rw [hV]; rfl
  have hbx2 : (Instr.box 53 V2).run Try.prog (w.alloc (.cells (orC o A N c) 53)) = .ok (.pointer (some ⟨w.heap.size + 1, 0, none⟩)) ((w.alloc (.cells (orC o A N c) 53)).alloc (.cells (orC o A2 N c2) 53)) := by rw [hV2, ← hs1]; rfl
  clear hV hV2 hl hl2 hs1
  go_enter Try.func51, Try.ntmps51
  go_upto_region 1 with (first | ((with_reducible show wpList Try.prog _ _ (Oper.mk (some 2) _ _ _ _ _ :: _) _ _); refine wpL_box 53 (.tmp 0) V rfl rfl rfl hbx ?_) | ((with_reducible show wpList Try.prog _ _ (Oper.mk (some 3) _ _ _ _ _ :: _) _ _); refine wpL_box 53 (.tmp 1) V2 rfl rfl rfl hbx2 ?_))
  clear hbx hbx2
  generalize V = V0
  generalize V2 = V02
  generalize (w.alloc _).alloc _ = W at K K2 hb hlw hlw2 ⊢
  have hsm := Lib.hid (rsameRule_any o.r A A2 N c c2 W hlw hlw2 hN)
  obtain ⟨c0, c1, c2, c16, c17, c18, c19, c20, f0⟩ := K.oc
  obtain ⟨d0, d1, d2, d16, d17, d18, d19, d20, f1⟩ := K2.oc
  have hld := K.ld51
  have hld2 := K2.ld51
  have hp := bin_eq23 o.p.f o.p.fp o.p.t o.p.tp o.p.n o.p.f o.p.fp o.p.t o.p.tp o.p.n
  rw [prQ_self] at hp
  have e0 : (o.k == o.k) = true := by simp
  have e1 : (o.n == o.n) = true := by simp
  have e2 : (o.m == o.m) = true := by simp
  go_wp2_with (first | (go_at_call 102; refine hsm.out.mono ?_; rintro e w5 ⟨rfl, hb5⟩) | ((with_reducible show wpList Try.prog _ _ (Oper.mk (some 33) _ _ _ _ _ :: _) _ _); refine wpL_loadG 51 (.tmp 32) (.pointer (some ⟨w.heap.size, 3, none⟩)) (by rfl) rfl rfl hld ?_) | ((with_reducible show wpList Try.prog _ _ (Oper.mk (some 35) _ _ _ _ _ :: _) _ _); refine wpL_loadG 51 (.tmp 34) (.pointer (some ⟨w.heap.size + 1, 3, none⟩)) (by rfl) rfl rfl hld2 ?_))
  go_ret
  exact ⟨rfl, hb.next hb5⟩

theorem orderParses_walk (A : Option Addr) (N c : Nat) (l : List UInt8) (w : World) (hl : By w w.heap.size A N l) (hc : N ≤ c) (hN : N ≤ 140737488351232) :
    Calls Try.prog 16 #[.slice A N c] w fun e w' => e = .returned (.bool true) ∧ Below w.heap.size w w' := by
  have hpa := fun A N c w hl hc => parse_any A N c l w hl hc
  have hra := fun A N c w hl hc => rparse_any A N c l w hl hc
  obtain ⟨V, hV⟩ : ∃ x, x = orV l := ⟨_, rfl⟩
  obtain ⟨E, hE⟩ : ∃ x, x = orE l := ⟨_, rfl⟩
  simp only [← hV, ← hE] at hpa hra
  have hpah := Lib.hid hpa
  have hrah := Lib.hid hra
  clear hpa hra hV hE
  have hcp := Lib.hid (copy_any A N c _ l w hl (by omega))
  go_enter Try.func16, Try.ntmps16
  go_upto_region 2 with (go_at_call 24; refine hcp.out.mono ?_; rintro e w1 ⟨A1, N1, c1, rfl, hO1, hb⟩)
  have hI := hO1.by_
  have hc1 := hO1.cap
  have hl1 := hl.kept hb
  have hN1 := hO1.len
  clear hO1 hcp
  go_upto_region 3 with (first | (go_at_call 38; refine (hpah.out A1 N1 c1 w1 hI hc1).mono ?_; rintro e w2 ⟨A2, L2, c2, rfl, hO2, hLc2, hb2⟩; have hal := alloc53 w2; have hst := vst53 w2 V A2 L2 c2) | ((with_reducible show wpList Try.prog _ _ (Oper.mk (some 4) _ _ _ _ _ :: _) _ _); refine wpL_alloc 53 rfl rfl hal ?_) | ((with_reducible show wpList Try.prog _ _ (Oper.mk none _ _ _ _ _ :: _) _ _); refine wpL_store 53 (.tmp 4) (.tmp 13) _ (.agg (orC V A2 L2 c2)) rfl rfl rfl rfl hst ?_))
  clear hal hst
  have K4 := Bk.new w2 53 (orC V A2 L2 c2)
  have hO2 := hO2.boxed (.cells (orC V A2 L2 c2) 53)
  have hI := (hI.kept hb2).boxed (.cells (orC V A2 L2 c2) 53)
  have hl1 := (hl1.kept hb2).boxed (.cells (orC V A2 L2 c2) 53)
  have hb := (hb.next hb2).push (.cells (orC V A2 L2 c2) 53)
  clear hb2 hl
  generalize w2.heap.size = n4 at K4 ⊢
  generalize w2.alloc _ = W at K4 hO2 hI hl1 hb ⊢
  go_upto_region 4 with (first | (go_at_call 55; refine (hrah.out A N c W hl1 (by omega)).mono ?_; rintro e w3 ⟨A3, L3, c3, rfl, hO3, hL3, hb3⟩; have hal := alloc53 w3; have hst := vst53 w3 V A3 L3 c3) | ((with_reducible show wpList Try.prog _ _ (Oper.mk (some 6) _ _ _ _ _ :: _) _ _); refine wpL_alloc 53 rfl rfl hal ?_) | ((with_reducible show wpList Try.prog _ _ (Oper.mk none _ _ _ _ _ :: _) _ _); refine wpL_store 53 (.tmp 6) (.tmp 18) _ (.agg (orC V A3 L3 c3)) rfl rfl rfl rfl hst ?_))
  clear hal hst hpah hrah
  have K4 := (K4.kept hb3).alloc (.cells (orC V A3 L3 c3) 53)
  have K6 := Bk.new w3 53 (orC V A3 L3 c3)
  have hO2 := (hO2.kept hb3).boxed (.cells (orC V A3 L3 c3) 53)
  have hO3 := hO3.boxed (.cells (orC V A3 L3 c3) 53)
  have hI := (hI.kept hb3).boxed (.cells (orC V A3 L3 c3) 53)
  have hl1 := (hl1.kept hb3).boxed (.cells (orC V A3 L3 c3) 53)
  have hb := (hb.next hb3).push (.cells (orC V A3 L3 c3) 53)
  clear hb3
  generalize w3.heap.size = n6 at K6 ⊢
  generalize w3.alloc _ = W at K4 K6 hO2 hO3 hI hl1 hb ⊢
  have e2 := hO2.len
  have e3 := hO3.len
  obtain rfl : L3 = L2 := by omega
  have hld1 := K4.ld53 rfl
  have hld2 := K6.ld53 rfl
  have hsm := Lib.hid (rsame_ord V A2 A3 L3 c2 c3 W hO2 hO3 (by omega))
  have hex : (E == E) = true := by simp
  clear e2 e3
  go_wp2_with (first | (go_at_call 51; refine hsm.out.mono ?_; rintro e w5 ⟨rfl, hb5⟩; have heq := eqbytes_any A1 A N1 c1 N c _ _ l l w5 (hI.kept hb5) (hl1.kept hb5); rw [show (l == l) = true by simp] at heq; have hb := hb.next hb5) | (go_at_call 29; refine heq.mono ?_; rintro e w6 ⟨rfl, rfl⟩) | (go_at_call 39; refine (works06 _).mono ?_; rintro e w7 ⟨rfl, hb7⟩; have hb := hb.next hb7) | ((with_reducible show wpList Try.prog _ _ (Oper.mk (some 20) _ _ _ _ _ :: _) _ _); refine wpL_load 53 (.tmp 4) (.pointer (some ⟨n4, 0, none⟩)) rfl rfl rfl hld1 ?_) | ((with_reducible show wpList Try.prog _ _ (Oper.mk (some 21) _ _ _ _ _ :: _) _ _); refine wpL_load 53 (.tmp 6) (.pointer (some ⟨n6, 0, none⟩)) rfl rfl rfl hld2 ?_))
  go_ret
  exact ⟨rfl, hb⟩
end Go.Proofs.Ytfnnjaljnfphlaa
