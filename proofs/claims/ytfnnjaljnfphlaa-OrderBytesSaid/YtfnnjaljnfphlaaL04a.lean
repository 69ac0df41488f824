/- ProbeAgain: its law and its walk. -/
import Derived.Test.YtfnnjaljnfphlaaL04o
import Derived.Test.YtfnnjaljnfphlaaPla
namespace Go.Proofs.Ytfnnjaljnfphlaa
open Go.RowKit
set_option maxRecDepth 100000
set_option maxHeartbeats 2000000
set_option linter.unusedSimpArgs false
set_option linter.unusedVariables false

theorem pp_again {l : List UInt8} (h : ppE l = 0) : PrOk (ppQ l).1 (ppQ l).2.1 (ppQ l).2.2.1 (ppQ l).2.2.2.1 (ppQ l).2.2.2.2 ∧ prB (ppQ l).1 (ppQ l).2.1 (ppQ l).2.2.1 (ppQ l).2.2.2.1 (ppQ l).2.2.2.2 = l := by
  unfold ppE at h
  obtain ⟨k, body, er, ho⟩ : ∃ k body er, openB l = (k, body, er) := ⟨_, _, _, rfl⟩
  unfold ppQ
  rw [ho] at h ⊢
  simp only at h ⊢
  split at h
  · rename_i hne; exact absurd h hne
  · rename_i hne
    have he : er = 0 := by omega
    subst he
    split at h
    · rename_i hc
      obtain ⟨hk, hend, hok⟩ := hc
      refine ⟨hok, ?_⟩
      obtain ⟨c, hkc, hl, _⟩ := open_back ho
      have hc2 : c.toNat = 2 := by omega
      obtain ⟨e1, e2⟩ := end_ok.1 hend
      unfold rd5 at e1 e2 ⊢
      simp only at e1 e2 ⊢
      obtain ⟨a5, b5, _⟩ := rn_back e1
      obtain ⟨a4, b4, _⟩ := rn_back a5
      obtain ⟨a3, b3, _⟩ := rn_back a4
      obtain ⟨a2, b2, _⟩ := rn_back a3
      obtain ⟨a1, b1, _⟩ := rn_back a2
      rw [e2, List.append_nil] at b5
      rw [b5] at b4
      rw [b4] at b3
      rw [b3] at b2
      rw [b2] at b1
      simp only [] at b1
      rw [hl, hc2, prB]
      simp only [Int.toNat_natCast]
      rw [← b1]
    · simp at h

theorem ppV_ok {l : List UInt8} (h : ppE l = 0) (x : Nat) : ppV l x = (x : Int) := if_pos h
theorem ppV_no {l : List UInt8} (h : ¬ ppE l = 0) (x : Nat) : ppV l x = 0 := if_neg h

/-- Bytes that fit, sealed; of too many none. -/
def slB (k : Nat) (l : List UInt8) : List UInt8 := if 509 < l.length then [] else sealB k l
theorem seal_all (A : Option Addr) (n cap k : Nat) (l : List UInt8) (w : World) (hl : By w w.heap.size A n l) (hn2 : n ≤ 140737488355328) (hk : k ≤ 255) :
    Calls Try.prog 35 #[.int .i64 (k : Int), .slice A n cap] w fun e w' => ∃ A' N c' er, e = .returned (.tuple #[.slice A' N c', .int .i64 er]) ∧
      OwnB w' w.heap.size A' N c' (slB k l) ∧ Below w.heap.size w w' := by
  have hlen := hl.len
  by_cases h : 509 < n
  · refine (seal_long A n cap k w h hn2 hk).mono ?_
    rintro e w' ⟨rfl, rfl⟩
    refine ⟨none, 0, 0, 5, rfl, ?_, Below.refl _ _⟩
    rw [slB, if_pos (by omega)]
    exact World.ownsRow_nil _ _ _ _
  · refine (seal_any A n cap k l w hl (by omega) hk).mono ?_
    rintro e w' ⟨A', N, c', rfl, hO, hb⟩
    refine ⟨A', N, c', 0, rfl, ?_, hb⟩
    rw [slB, if_neg (by omega)]
    exact hO

theorem probeAgain_walk (A A2 : Option Addr) (N c N2 C2 : Nat) (l l2 : List UInt8) (w : World) (hl : By w w.heap.size A N l) (hc : N ≤ c) (hl2 : By w w.heap.size A2 N2 l2) (hc2 : N2 ≤ C2) (hN2 : N2 ≤ 140737488355328) :
    Calls Try.prog 6 #[.slice A N c, .slice A2 N2 C2] w fun e w' => e = .returned (.bool true) ∧ Below w.heap.size w w' := by
  have hq : ∀ w, (binOp .neq 23 (.agg #[.int .i64 0, .int .i64 0, .int .i64 0, .int .i64 0, .int .i64 0]) (.agg #[.int .i64 0, .int .i64 0, .int .i64 0, .int .i64 0, .int .i64 0])).run Try.prog w = .ok (.bool false) w := fun _ => by kernel_rfl
  go_enter Try.func6, Try.ntmps6
  go_wp2_with fail
  go_loopw [0, 5] (fun v i wr => ∃ (k : Nat) (A : Option Addr) (N c : Nat) (l : List UInt8), k ≤ 2 ∧ i = .int .i64 k ∧ v = .slice A N c ∧ By wr wr.heap.size A N l ∧ N ≤ c ∧ Below w.heap.size w wr)
      (fun _ i _ => 2 - (intOf i).toNat)
  case atStart => exact ⟨0, A, N, c, l, by omega, rfl, rfl, hl, hc, Below.refl _ _⟩
  case round =>
    clear hl hc A N c l
    obtain ⟨k, A, N, c, l, hk, rfl, rfl, hl, hc, hb⟩ := hrel
    by_cases hlt : k < 2
    · have hk2 : ((k : Int) < 2) := by omega
      go_wp2_with fail
      refine (pparse_any A N c l _ hl hc).mono ?_
      rintro e w1 ⟨rfl, hb1⟩
      by_cases he : ppE l = 0
      · obtain ⟨hok, hB⟩ := pp_again he
        simp only [he, ppV_ok he]
        have HE := Lib.hid he
        clear he
        generalize ppQ l = q at hok hB ⊢
        obtain ⟨f, fp, t, tp, n⟩ := q
        simp only at hok hB ⊢
        have K1 := Bk.new w1 23 #[.int .i64 f, .int .i64 fp, .int .i64 t, .int .i64 tp, .int .i64 n]
        obtain ⟨c0, c1, c2, c3, c4, f0⟩ := K1.five
        go_wp2_with fail
        refine (pbytes_any f fp t tp n _ hok).mono ?_
        rintro e w2 ⟨A1, N1, d1, rfl, hO, hb2⟩
        rw [hB] at hO
        have hl3 := ((hl.kept hb1).boxed (.cells #[.int .i64 f, .int .i64 fp, .int .i64 t, .int .i64 tp, .int .i64 n] 23)).kept hb2
        have hO2 := hO.by_
        have hB2 := (hb.next hb1).push (.cells #[.int .i64 f, .int .i64 fp, .int .i64 t, .int .i64 tp, .int .i64 n] 23) |>.next hb2
        have eqs := eqbytes_any _ _ N1 d1 N c _ _ _ _ _ hO2 hl3
        rw [show (l == l) = true from by simp] at eqs
        have HB := Lib.hid hB
        clear hB c0 c1 c2 c3 c4 f0 K1
        go_wp2_with fail
        refine eqs.mono ?_
        rintro e w3 ⟨rfl, rfl⟩
        go_wp2_with fail
        refine (seal_all A2 N2 C2 2 l2 _ ((hl2.below hB2).more hB2.size) hN2 (by omega)).mono ?_
        rintro e w4 ⟨A4, N4, c4, er, rfl, hO4, hb4⟩
        go_wp2_with fail
        go_roundw
        case rel => exact ⟨k + 1, A4, N4, c4, _, by omega, by go_num, rfl, hO4.by_, hO4.cap, hB2.next hb4⟩
        case measure => simp [intOf]; omega
      · simp only [ppV_no he]
        have HE : (ppE l == 0) = false := by simpa using he
        obtain ⟨c0, c1, c2, c3, c4, f0⟩ := (Bk.new w1 23 #[.int .i64 0, .int .i64 0, .int .i64 0, .int .i64 0, .int .i64 0]).five
        have hB2 := (hb.next hb1).push (.cells #[.int .i64 0, .int .i64 0, .int .i64 0, .int .i64 0, .int .i64 0] 23)
        go_wp2_with fail
        refine (seal_all A2 N2 C2 2 l2 _ ((hl2.below hB2).more hB2.size) hN2 (by omega)).mono ?_
        rintro e w4 ⟨A4, N4, c4, er, rfl, hO4, hb4⟩
        go_wp2_with fail
        go_roundw
        case rel => exact ⟨k + 1, A4, N4, c4, _, by omega, by go_num, rfl, hO4.by_, hO4.cap, hB2.next hb4⟩
        case measure => simp [intOf]; omega
    · obtain rfl : k = 2 := by omega
      go_wp2_with fail
      refine (works04 _).mono ?_
      rintro e w6 ⟨rfl, hb6⟩
      go_wp2_with fail
      go_ret
      exact ⟨rfl, hb.next hb6⟩
end Go.Proofs.Ytfnnjaljnfphlaa
