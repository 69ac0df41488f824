/- The reference's Same of segments. -/
import Derived.Test.YtfnnjaljnfphlaaSgs
namespace Go.Proofs.Ytfnnjaljnfphlaa
open Go.RowKit
set_option maxRecDepth 100000
set_option maxHeartbeats 4000000
set_option linter.unusedSimpArgs false
set_option linter.unusedVariables false

theorem rsame_any (k t f h ep bo sq ac : Int) (A : Option Addr) (N c : Nat) (l : List UInt8) (k' t' f' h' ep' bo' sq' ac' : Int) (A' : Option Addr) (N' c' : Nat) (l' : List UInt8) (w : World) (hl : By w w.heap.size A N l) (hl' : By w w.heap.size A' N' l') :
    Calls Try.prog 32 #[.agg (sgC k t f h ep bo sq ac A N c), .agg (sgC k' t' f' h' ep' bo' sq' ac' A' N' c')] w fun e w' => e = .returned (.bool (smB k t f h ep bo sq ac l k' t' f' h' ep' bo' sq' ac' l')) ∧ Below w.heap.size w w' := by
  have hT := S2.start (sgC k t f h ep bo sq ac A N c) (sgC k' t' f' h' ep' bo' sq' ac' A' N' c') hl hl'
  unfold sgC at hT ⊢
  go_enter Try.func32, Try.ntmps32
  go_upto_region 1 with fail
  have EQ := fun (w : World) (h1 : By w w.heap.size A N l) (h2 : By w w.heap.size A' N' l') => eqbytes_any A A' N c N' c' _ _ l l' w h1 h2
  generalize (w.alloc _).alloc _ = w1 at hT ⊢
  obtain ⟨_, c0, c1, c2, c3, c4, c5, c6, c7, c8, d0, d1, d2, d3, d4, d5, d6, d7, d8⟩ := hT.s
  have EQH := Lib.hid EQ
  clear EQ
  by_cases z0 : k = k'
  case neg =>
    have n0 : (k == k') = false := by simpa using z0
    go_wp2_with (go_at_call 29; refine (EQH.out _ hT.hl hT.hl').mono ?_; rintro e w5 ⟨rfl, rfl⟩)
    go_ret
    exact ⟨ret_b (by rw [sm_nm]; simp [nmB, z0]), hT.hb⟩
  subst z0
  by_cases z1 : t = t'
  case neg =>
    have n1 : (t == t') = false := by simpa using z1
    go_wp2_with (go_at_call 29; refine (EQH.out _ hT.hl hT.hl').mono ?_; rintro e w5 ⟨rfl, rfl⟩)
    go_ret
    exact ⟨ret_b (by rw [sm_nm]; simp [nmB, z1]), hT.hb⟩
  subst z1
  by_cases z2 : f = f'
  case neg =>
    have n2 : (f == f') = false := by simpa using z2
    go_wp2_with (go_at_call 29; refine (EQH.out _ hT.hl hT.hl').mono ?_; rintro e w5 ⟨rfl, rfl⟩)
    go_ret
    exact ⟨ret_b (by rw [sm_nm]; simp [nmB, z2]), hT.hb⟩
  subst z2
  by_cases z3 : h = h'
  case neg =>
    have n3 : (h == h') = false := by simpa using z3
    go_wp2_with (go_at_call 29; refine (EQH.out _ hT.hl hT.hl').mono ?_; rintro e w5 ⟨rfl, rfl⟩)
    go_ret
    exact ⟨ret_b (by rw [sm_nm]; simp [nmB, z3]), hT.hb⟩
  subst z3
  by_cases z4 : ep = ep'
  case neg =>
    have n4 : (ep == ep') = false := by simpa using z4
    go_wp2_with (go_at_call 29; refine (EQH.out _ hT.hl hT.hl').mono ?_; rintro e w5 ⟨rfl, rfl⟩)
    go_ret
    exact ⟨ret_b (by rw [sm_nm]; simp [nmB, z4]), hT.hb⟩
  subst z4
  by_cases z5 : bo = bo'
  case neg =>
    have n5 : (bo == bo') = false := by simpa using z5
    go_wp2_with (go_at_call 29; refine (EQH.out _ hT.hl hT.hl').mono ?_; rintro e w5 ⟨rfl, rfl⟩)
    go_ret
    exact ⟨ret_b (by rw [sm_nm]; simp [nmB, z5]), hT.hb⟩
  subst z5
  by_cases z6 : sq = sq'
  case neg =>
    have n6 : (sq == sq') = false := by simpa using z6
    go_wp2_with (go_at_call 29; refine (EQH.out _ hT.hl hT.hl').mono ?_; rintro e w5 ⟨rfl, rfl⟩)
    go_ret
    exact ⟨ret_b (by rw [sm_nm]; simp [nmB, z6]), hT.hb⟩
  subst z6
  by_cases z7 : ac = ac'
  case neg =>
    have n7 : (ac == ac') = false := by simpa using z7
    go_wp2_with (go_at_call 29; refine (EQH.out _ hT.hl hT.hl').mono ?_; rintro e w5 ⟨rfl, rfl⟩)
    go_ret
    exact ⟨ret_b (by rw [sm_nm]; simp [nmB, z7]), hT.hb⟩
  subst z7
  go_wp2_with (go_at_call 29; refine (EQH.out _ hT.hl hT.hl').mono ?_; rintro e w5 ⟨rfl, rfl⟩)
  go_ret
  exact ⟨ret_b (by rw [sm_nm]; simp [nmB]), hT.hb⟩
end Go.Proofs.Ytfnnjaljnfphlaa
