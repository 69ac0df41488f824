/- seg.Parse's closure: it reads numbers into fields. -/
import Derived.Test.YtfnnjaljnfphlaaPpa
import Derived.Test.YtfnnjaljnfphlaaSgd
namespace Go.Proofs.Ytfnnjaljnfphlaa
open Go.RowKit
set_option maxRecDepth 100000
set_option maxHeartbeats 4000000
set_option linter.unusedSimpArgs false
set_option linter.unusedVariables false

/-- Reads m numbers into the cells from i0 on. -/
def rdF (size i0 : Nat) : Nat → Array Value × Rs → Array Value × Rs
  | 0, q => q
  | k + 1, q => ((rdF size i0 k q).1.setIfInBounds (i0 + k) (.int .i64 (rn size (rdF size i0 k q).2).1), (rn size (rdF size i0 k q).2).2)
theorem rdF_size (size i0 k : Nat) (q : Array Value × Rs) : (rdF size i0 k q).1.size = q.1.size := by
  induction k with
  | zero => rfl
  | succ k ih => simp [rdF, ih]
theorem rdF_kind (size i0 k : Nat) (q : Array Value × Rs) (h : ∀ v ∈ q.1.toList, ∀ x, v ≠ .int .u8 x) : ∀ v ∈ (rdF size i0 k q).1.toList, ∀ x, v ≠ .int .u8 x := by
  induction k with
  | zero => exact h
  | succ k ih =>
    intro v hv x
    simp only [rdF, Array.toList_setIfInBounds] at hv
    rcases List.mem_or_eq_of_mem_set hv with h | h
    · exact ih v h x
    · subst h; intro e; cases e

theorem fill_any (size i0 m B gp gr rd s : Nat) (cs ps : Array Value) (q : Rs) (w : World) (hsz : size = 1 ∨ size = 2 ∨ size = 4) (hm : m ≤ 8) (hi : i0 + m ≤ cs.size)
    (hP : Bk w gp 67 ps) (hps : ∀ j, j < m → ps[j]? = some (.pointer (some ⟨s, i0 + j, none⟩))) (hS : Bk w s 34 cs) (hR : RdS 130 w rd q) (hG : Bk w gr 90 #[.pointer (some ⟨rd, 0, none⟩)])
    (n1 : s ≠ rd) (n2 : gp ≠ s) (n3 : gp ≠ rd) (n4 : gr ≠ s) (n5 : gr ≠ rd) (b1 : B ≤ s) (b2 : B ≤ rd) (hk : ∀ v ∈ cs.toList, ∀ x, v ≠ .int .u8 x) (hwB : B ≤ w.heap.size) :
    Calls Try.prog 90 #[.int .i64 (size : Int), .slice (some ⟨gp, 0, none⟩) m m, .pointer (some ⟨gr, 0, none⟩)] w fun e w' => e = .returned (.tuple #[]) ∧ Bk w' s 34 (rdF size i0 m (cs, q)).1 ∧ RdS 130 w' rd (rdF size i0 m (cs, q)).2 ∧
      KpE (fun k => k = s ∨ k = rd) w w' ∧ Below B w w' := by
  have HP := Lib.hid hps
  have Hk := Lib.hid hk
  clear hps hk
  go_enter Try.func90, Try.ntmps90
  go_wp2_with fail
  go_loopw [9] (fun i wr => ∃ k : Nat, k ≤ m ∧ i = .int .i64 k ∧ Bk wr s 34 (rdF size i0 k (cs, q)).1 ∧ RdS 130 wr rd (rdF size i0 k (cs, q)).2 ∧ KpE (fun k => k = s ∨ k = rd) w wr ∧ Below B w wr) (fun i _ => m - (intOf i).toNat)
  case atStart => exact ⟨0, by omega, rfl, hS, hR, ⟨Nat.le_refl _, fun _ _ _ _ _ h => h⟩, Below.refl _ _⟩
  case round =>
    obtain ⟨k, hk, rfl, hS, hR, hK, hb⟩ := hrel
    by_cases hlt : k < m
    · have hk2 : (k : Int) < (m : Int) := by omega
      have hk3 : (0 : Int) ≤ (k : Int) := by omega
      have hPr : Bk wr gp 67 ps := hK.2 gp _ _ _ (by omega) hP
      have hGr : Bk wr gr 90 #[.pointer (some ⟨rd, 0, none⟩)] := hK.2 gr _ _ _ (by omega) hG
      have c0 : wr.cell? ⟨gp, k, none⟩ = some (.pointer (some ⟨s, i0 + k, none⟩)) := by rw [hPr.cell]; exact HP.out k hlt
      have g0 := hGr.one.1
      obtain ⟨p, hp⟩ : ∃ p, rdF size i0 k (cs, q) = p := ⟨_, rfl⟩
      have hp5 : p.1.size = cs.size := by rw [← hp]; exact rdF_size _ _ _ _
      have hpk : ∀ v ∈ p.1.toList, ∀ x, v ≠ .int .u8 x := by rw [← hp]; exact rdF_kind _ _ _ _ Hk.out
      rw [hp] at hS hR
      have Hp := Lib.hid hp
      have Hp5 := Lib.hid hp5
      have Hpk := Lib.hid hpk
      clear hp hp5 hpk
      go_wp2_with (go_at_call 71; refine (num_any _ size p.2 _ hR hsz).mono ?_; rintro e w5 ⟨rfl, hs5, hg5⟩; have hP5 := hS.grown hg5 (by intro e; injection e with e; omega); obtain ⟨u5, hu5⟩ := hP5.some_at (i := i0 + k) (by rw [Hp5.out]; omega); have hf5 := hP5.frozen)
      go_roundw
      case rel =>
        have hgs := grown_set w5 s (i0 + k) (.int .i64 ((rn size p.2).1 : Int))
        refine ⟨k + 1, by omega, by go_num, ?_, ?_, (hK.tr (KpE.of_grown' (.inr rfl) hg5)).tr (KpE.of_grown' (.inl rfl) hgs), ?_⟩
        · simp only [rdF, Hp.out]; exact hP5.set_ _ _
        · simp only [rdF, Hp.out]; exact hs5.set_other hP5 Hpk.out _ _ (by omega)
        · exact (below_of_grown hb hg5 (by have := hb.size; omega) (by omega)).setCell b1 _
      case measure => simp [intOf]; omega
    · obtain rfl : k = m := by omega
      go_wp2
      first | go_end0 | (simp only [Exit.inBlock, Exit.then]; refine bodyPost_ret (results_none rfl _ _ _) rfl ?_) | refine bodyPost_ret (results_none rfl _ _ _) rfl ?_
      exact ⟨rfl, hS, hR, hK, hb⟩
end Go.Proofs.Ytfnnjaljnfphlaa
