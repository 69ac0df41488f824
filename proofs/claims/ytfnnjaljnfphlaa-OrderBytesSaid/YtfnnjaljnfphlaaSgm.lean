/- The helper of the statements on segments: made. -/
import Derived.Test.YtfnnjaljnfphlaaSgd
import Derived.Test.YtfnnjaljnfphlaaL04
import Derived.Deep.RegionHeld3
import Derived.Deep.CutRange
namespace Go.Proofs.Ytfnnjaljnfphlaa
open Go.RowKit
set_option maxRecDepth 100000
set_option maxHeartbeats 4000000
set_option linter.unusedSimpArgs false
set_option linter.unusedVariables false

theorem Bk.newAt' {w : World} {n : Nat} (t : TypeId) (cs : Array Value) (h : w.heap.size = n) : Bk (w.alloc (.cells cs t)) n t cs := by rw [← h]; exact Bk.new w t cs
theorem OwnB.of_heap' {w w' : World} {b : Nat} {A : Option Addr} {N c : Nat} {l : List UInt8} (h : OwnB w b A N c l) (hk : ∀ g, b ≤ g → g < w.heap.size → w'.heap[g]? = w.heap[g]?) : OwnB w' b A N c l := by
  refine ⟨h.1, ?_⟩
  rcases h.2 with h2 | ⟨g, cap, cur, hv, hg, hh, r⟩
  · exact .inl h2
  · exact .inr ⟨g, cap, cur, hv, hg, (hk g hg (Array.getElem?_eq_some_iff.1 hh).1).trans hh, r⟩
theorem OwnB.set_' {w : World} {b g : Nat} {A : Option Addr} {N c : Nat} {l : List UInt8} (h : OwnB w b A N c l) (hg : g < b) (i : Nat) (u : Value) : OwnB (w.setCell ⟨g, i, none⟩ u) b A N c l :=
  h.of_heap' fun j hj _ => Below.heap_setCell w _ u j (by simp; omega)
theorem own_set9' {w : World} {b g : Nat} {A : Option Addr} {N c : Nat} {l : List UInt8} (h : OwnB w b A N c l) (hg : g < b) (a0 a1 a2 a3 a4 a5 a6 a7 a8 : Value) :
    OwnB (((((((((w.setCell ⟨g, 0, none⟩ a0).setCell ⟨g, 1, none⟩ a1).setCell ⟨g, 2, none⟩ a2).setCell ⟨g, 3, none⟩ a3).setCell ⟨g, 4, none⟩ a4).setCell ⟨g, 5, none⟩ a5).setCell ⟨g, 6, none⟩ a6).setCell ⟨g, 7, none⟩ a7).setCell ⟨g, 8, none⟩ a8) b A N c l :=
  ((((((((h.set_' hg _ _).set_' hg _ _).set_' hg _ _).set_' hg _ _).set_' hg _ _).set_' hg _ _).set_' hg _ _).set_' hg _ _).set_' hg _ _
theorem wrap_five (x : Int) : IntKind.i64.wrap (1 + x % 5) = 1 + x % 5 := IntWalk.i64_in _ (by omega)
theorem wrap_big (x : Int) : IntKind.i64.wrap (1 + x % 4294967295) = 1 + x % 4294967295 := IntWalk.i64_in _ (by omega)

def MdQ (w : World) (e : Ending) (w' : World) : Prop :=
  ∃ k' t' f' h' ep' bo' sq' ac' A' N' c' l', e = .returned (.agg (sgC k' t' f' h' ep' bo' sq' ac' A' N' c')) ∧ SgOk k' t' f' h' ep' bo' sq' ac' N' ∧ By w' w'.heap.size A' N' l' ∧ N' ≤ c' ∧ Below w.heap.size w w'
theorem made05_q (k t f h ep bo sq ac : Int) (A : Option Addr) (N c : Nat) (l : List UInt8) (w : World) (y1 : I64 k) (y2 : I64 t) (y3 : I64 f) (y4 : I64 h) (y5 : I64 ep) (y6 : I64 bo) (y7 : I64 sq) (y8 : I64 ac) (hl : By w w.heap.size A N l) (hc : N ≤ c) :
    Calls Try.prog 47 #[.agg (sgC k t f h ep bo sq ac A N c)] w (MdQ w) := by
  unfold I64 at *
  obtain ⟨K, hK⟩ : ∃ K, K = 1 + k % 5 := ⟨_, rfl⟩
  have hK1 : 1 ≤ K ∧ K ≤ 5 := by omega
  have hT1 : 1 ≤ 1 + t % 6 ∧ 1 + t % 6 ≤ 6 := by omega
  have hH1 : 0 ≤ h % 13 ∧ h % 13 ≤ 12 := by omega
  unfold sgC
  have e1 := wrap_five k
  have e2 := wrap_six t
  have KW := Bk.new w 34 #[.int .i64 k, .int .i64 t, .int .i64 f, .int .i64 h, .int .i64 ep, .int .i64 bo, .int .i64 sq, .int .i64 ac, .slice A N c]
  have KS := KW.alloc (.cells #[.int .i64 0, .int .i64 0, .int .i64 0, .int .i64 0, .int .i64 0, .int .i64 0, .int .i64 0, .int .i64 0, .slice none 0 0] 34)
  go_enter Try.func47, Try.ntmps47
  go_upto_region 1 with fail
  obtain ⟨c0, c1, c2, c3, c4, c5, c6, c7, c8, f0⟩ := KS.nine
  have d := fun o => (KS.alloc o).nine
  go_cut [3] from 6 to 13 (fun s3 wx => s3 = .pointer (some ⟨w.heap.size + 1 + 1, 0, none⟩) ∧ wx = (((w.alloc (.cells #[.int .i64 k, .int .i64 t, .int .i64 f, .int .i64 h, .int .i64 ep, .int .i64 bo, .int .i64 sq, .int .i64 ac, .slice A N c] 34)).alloc (.cells #[.int .i64 0, .int .i64 0, .int .i64 0, .int .i64 0, .int .i64 0, .int .i64 0, .int .i64 0, .int .i64 0, .slice none 0 0] 34)).alloc (.cells #[.int .i64 (1 + k % 5), .int .i64 0, .int .i64 0, .int .i64 (h % 13), .int .i64 0, .int .i64 0, .int .i64 0, .int .i64 0, .slice none 0 0] 34)).drew)
  case first =>
    go_region_held3 (fun w' => w'.cell? ⟨w.heap.size, 0, none⟩ = some (.int .i64 k) ∧ w'.cell? ⟨w.heap.size, 3, none⟩ = some (.int .i64 h)) (first | exact ⟨c0, c3⟩ | exact ⟨(d _).1, (d _).2.2.2.1⟩) (first | (go_at_call 20; refine (bring_any _ _ _ (by omega) (by omega) (by omega) (by omega)).mono ?_; rintro e w1 ⟨rfl, rfl⟩))
    all_goals (go_wp2_with fail; go_meet; exact ⟨rfl, rfl⟩)
  case rest =>
    obtain ⟨rfl, rfl⟩ := hcut
    clear d c0 c1 c2 c3 c4 c5 c6 c7 c8 f0
    simp only [← hK] at e1 ⊢
    have e3 := wrap_big ep
    have hE1 : 1 ≤ 1 + ep % 4294967295 ∧ 1 + ep % 4294967295 ≤ 4294967295 := by omega
    have hB1 : 0 ≤ bo % 4294967296 ∧ bo % 4294967296 ≤ 4294967295 := by omega
    have hA1 : 0 ≤ ac % 65536 ∧ ac % 65536 ≤ 65535 := by omega
    have hS1 : 0 ≤ sq % 65536 ∧ sq % 65536 ≤ 65535 := by omega
    have hKk := Lib.hid hK
    clear hK
    have hfd : (f.tmod 2 == 0) = true ∨ (f.tmod 2 == 0) = false := by cases (f.tmod 2 == 0) <;> simp
    obtain rfl | rfl | rfl | rfl | rfl : K = 1 ∨ K = 2 ∨ K = 3 ∨ K = 4 ∨ K = 5 := by omega
    · go_wp2_with (first | (go_at_call 20; refine (bring_any _ _ _ (by omega) (by omega) (by omega) (by omega)).mono ?_; rintro e w1 ⟨rfl, rfl⟩))
      refine bodyPost_ret (v := .agg #[.int .i64 (1), .int .i64 (1 + t % 6), .int .i64 (0), .int .i64 (h % 13), .int .i64 (0), .int .i64 (0), .int .i64 (0), .int .i64 (0), .slice none 0 0]) (by simp [results, Try.results47, go_sem]) rfl ?_
      exact ⟨_, _, _, _, _, _, _, _, none, 0, 0, [], rfl, by unfold SgOk; omega, By.empty, Nat.le_refl _, ((((Below.refl _ w).push _).push _).push _).drew⟩
    · go_wp2_with (first | (go_at_call 20; refine (bring_any _ _ _ (by omega) (by omega) (by omega) (by omega)).mono ?_; rintro e w1 ⟨rfl, rfl⟩))
      refine bodyPost_ret (v := .agg #[.int .i64 (2), .int .i64 (0), .int .i64 (1 + t % 6), .int .i64 (h % 13), .int .i64 (0), .int .i64 (bo % 4294967296), .int .i64 (0), .int .i64 (0), .slice none 0 0]) (by simp [results, Try.results47, go_sem]) rfl ?_
      exact ⟨_, _, _, _, _, _, _, _, none, 0, 0, [], rfl, by unfold SgOk; omega, By.empty, Nat.le_refl _, ((((Below.refl _ w).push _).push _).push _).drew⟩
    · go_wp2_with (first | (go_at_call 20; refine (bring_any _ _ _ (by omega) (by omega) (by omega) (by omega)).mono ?_; rintro e w1 ⟨rfl, rfl⟩))
      refine bodyPost_ret (v := .agg #[.int .i64 (3), .int .i64 (1 + t % 6), .int .i64 (0), .int .i64 (h % 13), .int .i64 (1 + ep % 4294967295), .int .i64 (bo % 4294967296), .int .i64 (0), .int .i64 (0), .slice none 0 0]) (by simp [results, Try.results47, go_sem]) rfl ?_
      exact ⟨_, _, _, _, _, _, _, _, none, 0, 0, [], rfl, by unfold SgOk; omega, By.empty, Nat.le_refl _, ((((Below.refl _ w).push _).push _).push _).drew⟩
    · rcases hfd with hfd | hfd
      · go_wp2_with (first | (go_at_call 20; refine (bring_any _ _ _ (by omega) (by omega) (by omega) (by omega)).mono ?_; rintro e w1 ⟨rfl, rfl⟩))
        refine bodyPost_ret (v := .agg #[.int .i64 (4), .int .i64 (1 + t % 6), .int .i64 (0), .int .i64 (h % 13), .int .i64 (1 + ep % 4294967295), .int .i64 (0), .int .i64 (0), .int .i64 (ac % 65536), .slice none 0 0]) (by simp [results, Try.results47, go_sem]) rfl ?_
        exact ⟨_, _, _, _, _, _, _, _, none, 0, 0, [], rfl, by unfold SgOk; omega, By.empty, Nat.le_refl _, ((((Below.refl _ w).push _).push _).push _).drew⟩
      · go_wp2_with (first | (go_at_call 20; refine (bring_any _ _ _ (by omega) (by omega) (by omega) (by omega)).mono ?_; rintro e w1 ⟨rfl, rfl⟩))
        refine bodyPost_ret (v := .agg #[.int .i64 (4), .int .i64 (0), .int .i64 (1 + t % 6), .int .i64 (h % 13), .int .i64 (1 + ep % 4294967295), .int .i64 (0), .int .i64 (0), .int .i64 (ac % 65536), .slice none 0 0]) (by simp [results, Try.results47, go_sem]) rfl ?_
        exact ⟨_, _, _, _, _, _, _, _, none, 0, 0, [], rfl, by unfold SgOk; omega, By.empty, Nat.le_refl _, ((((Below.refl _ w).push _).push _).push _).drew⟩
    · rcases hfd with hfd | hfd
      · go_upto_region 17 with (first | (go_at_call 20; refine (bring_any _ _ _ (by omega) (by omega) (by omega) (by omega)).mono ?_; rintro e w1 ⟨rfl, rfl⟩))
        have KA := ((KW.alloc (.cells #[.int .i64 0, .int .i64 0, .int .i64 0, .int .i64 0, .int .i64 0, .int .i64 0, .int .i64 0, .int .i64 0, .slice none 0 0] 34)).alloc (.cells #[.int .i64 5, .int .i64 (1 + t % 6), .int .i64 0, .int .i64 (h % 13), .int .i64 (1 + ep % 4294967295), .int .i64 0, .int .i64 (sq % 65536), .int .i64 0, .slice none 0 0] 34)).drew
        have KB := (Bk.newAt' (w := (w.alloc (.cells #[.int .i64 k, .int .i64 t, .int .i64 f, .int .i64 h, .int .i64 ep, .int .i64 bo, .int .i64 sq, .int .i64 ac, .slice A N c] 34))) 34 #[.int .i64 0, .int .i64 0, .int .i64 0, .int .i64 0, .int .i64 0, .int .i64 0, .int .i64 0, .int .i64 0, .slice none 0 0] (World.size_alloc _ _)).alloc (.cells #[.int .i64 5, .int .i64 (1 + t % 6), .int .i64 0, .int .i64 (h % 13), .int .i64 (1 + ep % 4294967295), .int .i64 0, .int .i64 (sq % 65536), .int .i64 0, .slice none 0 0] 34) |>.drew
        have KC := (Bk.newAt' (w := ((w.alloc (.cells #[.int .i64 k, .int .i64 t, .int .i64 f, .int .i64 h, .int .i64 ep, .int .i64 bo, .int .i64 sq, .int .i64 ac, .slice A N c] 34)).alloc (.cells #[.int .i64 0, .int .i64 0, .int .i64 0, .int .i64 0, .int .i64 0, .int .i64 0, .int .i64 0, .int .i64 0, .slice none 0 0] 34))) (n := w.heap.size + 1 + 1) 34 #[.int .i64 5, .int .i64 (1 + t % 6), .int .i64 0, .int .i64 (h % 13), .int .i64 (1 + ep % 4294967295), .int .i64 0, .int .i64 (sq % 65536), .int .i64 0, .slice none 0 0] (by rw [World.size_alloc, World.size_alloc])).drew
        have hlW : By (((w.alloc (.cells #[.int .i64 k, .int .i64 t, .int .i64 f, .int .i64 h, .int .i64 ep, .int .i64 bo, .int .i64 sq, .int .i64 ac, .slice A N c] 34)).alloc (.cells #[.int .i64 0, .int .i64 0, .int .i64 0, .int .i64 0, .int .i64 0, .int .i64 0, .int .i64 0, .int .i64 0, .slice none 0 0] 34)).alloc (.cells #[.int .i64 5, .int .i64 (1 + t % 6), .int .i64 0, .int .i64 (h % 13), .int .i64 (1 + ep % 4294967295), .int .i64 0, .int .i64 (sq % 65536), .int .i64 0, .slice none 0 0] 34)).drew (((w.alloc (.cells #[.int .i64 k, .int .i64 t, .int .i64 f, .int .i64 h, .int .i64 ep, .int .i64 bo, .int .i64 sq, .int .i64 ac, .slice A N c] 34)).alloc (.cells #[.int .i64 0, .int .i64 0, .int .i64 0, .int .i64 0, .int .i64 0, .int .i64 0, .int .i64 0, .int .i64 0, .slice none 0 0] 34)).alloc (.cells #[.int .i64 5, .int .i64 (1 + t % 6), .int .i64 0, .int .i64 (h % 13), .int .i64 (1 + ep % 4294967295), .int .i64 0, .int .i64 (sq % 65536), .int .i64 0, .slice none 0 0] 34)).drew.heap.size A N l := (((hl.boxed _).boxed _).boxed _).drew
        have hbW := ((((Below.refl w.heap.size w).push (.cells #[.int .i64 k, .int .i64 t, .int .i64 f, .int .i64 h, .int .i64 ep, .int .i64 bo, .int .i64 sq, .int .i64 ac, .slice A N c] 34)).push (.cells #[.int .i64 0, .int .i64 0, .int .i64 0, .int .i64 0, .int .i64 0, .int .i64 0, .int .i64 0, .int .i64 0, .slice none 0 0] 34)).push (.cells #[.int .i64 5, .int .i64 (1 + t % 6), .int .i64 0, .int .i64 (h % 13), .int .i64 (1 + ep % 4294967295), .int .i64 0, .int .i64 (sq % 65536), .int .i64 0, .slice none 0 0] 34)).drew
        have hsW : (((w.alloc (.cells #[.int .i64 k, .int .i64 t, .int .i64 f, .int .i64 h, .int .i64 ep, .int .i64 bo, .int .i64 sq, .int .i64 ac, .slice A N c] 34)).alloc (.cells #[.int .i64 0, .int .i64 0, .int .i64 0, .int .i64 0, .int .i64 0, .int .i64 0, .int .i64 0, .int .i64 0, .slice none 0 0] 34)).alloc (.cells #[.int .i64 5, .int .i64 (1 + t % 6), .int .i64 0, .int .i64 (h % 13), .int .i64 (1 + ep % 4294967295), .int .i64 0, .int .i64 (sq % 65536), .int .i64 0, .slice none 0 0] 34)).drew.heap.size = w.heap.size + 1 + 1 + 1 := by show (((w.alloc (.cells #[.int .i64 k, .int .i64 t, .int .i64 f, .int .i64 h, .int .i64 ep, .int .i64 bo, .int .i64 sq, .int .i64 ac, .slice A N c] 34)).alloc (.cells #[.int .i64 0, .int .i64 0, .int .i64 0, .int .i64 0, .int .i64 0, .int .i64 0, .int .i64 0, .int .i64 0, .slice none 0 0] 34)).alloc (.cells #[.int .i64 5, .int .i64 (1 + t % 6), .int .i64 0, .int .i64 (h % 13), .int .i64 (1 + ep % 4294967295), .int .i64 0, .int .i64 (sq % 65536), .int .i64 0, .slice none 0 0] 34)).heap.size = _; rw [World.size_alloc, World.size_alloc, World.size_alloc]
        have hsh := Lib.hid hsW
        clear hsW KS KW
        generalize (((w.alloc (.cells #[.int .i64 k, .int .i64 t, .int .i64 f, .int .i64 h, .int .i64 ep, .int .i64 bo, .int .i64 sq, .int .i64 ac, .slice A N c] 34)).alloc (.cells #[.int .i64 0, .int .i64 0, .int .i64 0, .int .i64 0, .int .i64 0, .int .i64 0, .int .i64 0, .int .i64 0, .slice none 0 0] 34)).alloc (.cells #[.int .i64 5, .int .i64 (1 + t % 6), .int .i64 0, .int .i64 (h % 13), .int .i64 (1 + ep % 4294967295), .int .i64 0, .int .i64 (sq % 65536), .int .i64 0, .slice none 0 0] 34)).drew = W at KA KB KC hlW hbW hsh ⊢
        obtain ⟨i0, hi0, hz0, hz1, hz2⟩ := info_parts info5
        have KAl := (KA.alloc (.cells #[.int .u8 (sq % 256)] 5)).drew
        have KBl := (KB.alloc (.cells #[.int .u8 (sq % 256)] 5)).drew
        have KCl := (KC.alloc (.cells #[.int .u8 (sq % 256)] 5)).drew
        have hbl := (hbW.push (.cells #[.int .u8 (sq % 256)] 5)).drew
        have hszl : W.heap.size + 1 ≤ (W.alloc (.cells #[.int .u8 (sq % 256)] 5)).drew.heap.size := by show _ ≤ (W.alloc _).heap.size; rw [World.size_alloc]; omega
        have hbase : W.heap.size ≤ (W.alloc (.cells #[.int .u8 (sq % 256)] 5)).drew.heap.size := by omega
        have hgA := KA.lt
        have hgB := KB.lt
        have hgC := KC.lt
        have hown : ((W.alloc (.cells #[.int .u8 (sq % 256)] 5)).drew).ownsRow W.heap.size 5 1 (.slice (some ⟨W.heap.size, 0, none⟩) 1 1) 1 [.int .u8 (sq % 256)] := own_new W 5 #[.int .u8 (sq % 256)] (by simp [maxLen])
        by_cases hm : N ≤ 255
        · have hm2 : (N : Int) ≤ 255 := by omega
          have hm3 : (0 : Int) ≤ (N : Int) := by omega
          have hm4 : (N : Int) ≤ (c : Int) := by omega
          have hm5 : ¬ (255 : Int) < (N : Int) := by omega
          have hnew : By ((W.alloc (.cells #[.int .u8 (sq % 256)] 5)).drew) (W.alloc (.cells #[.int .u8 (sq % 256)] 5)).drew.heap.size A N (l.take N) := (hlW.boxed (.cells #[.int .u8 (sq % 256)] 5)).front (k := N) (by omega)
          (go_region_held3 (fun w' => w'.cell? ⟨w.heap.size, 6, none⟩ = some (.int .i64 sq) ∧ w'.cell? ⟨w.heap.size, 8, none⟩ = some (.slice A N c)) (first | exact ⟨KA.cell 6, KA.cell 8⟩ | exact ⟨KAl.cell 6, KAl.cell 8⟩ | exact ⟨KAa.cell 6, KAa.cell 8⟩ | exact ⟨(KAa.far (p := ⟨w.heap.size + 1 + 1, 8, none⟩) (by simp; omega) _).cell 6, (KAa.far (p := ⟨w.heap.size + 1 + 1, 8, none⟩) (by simp; omega) _).cell 8⟩) ((rw [if_pos (by rfl)]; refine wp_append_rd _ _ _ 32 rfl W.heap.size 5 i0 _ 1 1 Try.underlying32 hi0 hz0 hz1 hz2 rfl (by omega) (.slice (some ⟨W.heap.size, 0, none⟩) 1 1) 1 [.int .u8 (sq % 256)] rfl hown _ A N c ((l.take N).map byV) rfl hnew (byV_one _) (by unfold maxLen; omega) (by omega) hbase ?_; intro v' w' ho' hg' ha'; obtain ⟨A9, c9, rfl, hc9, hf9⟩ := own_any ho'; have KAa := KAl.grown hg' (fun e => by have h9 : w.heap.size = W.heap.size := Option.some.inj e; omega); have KBa := KBl.grown hg' (fun e => by have h9 : w.heap.size + 1 = W.heap.size := Option.some.inj e; omega); have KCa := KCl.grown hg' (fun e => by have h9 : w.heap.size + 1 + 1 = W.heap.size := Option.some.inj e; omega); obtain ⟨q0, q1, q2, q3, q4, q5, q6, q7, q8, qf⟩ := KCa.nine; have hba := hbl.grown hg' hbl.size (fun j hj => by have h9 : W.heap.size = j := Option.some.inj hj; omega))))
          all_goals
            have KCs : Bk (w'.setCell ⟨w.heap.size + 1 + 1, 8, none⟩ (.slice A9 (1 + N) c9)) (w.heap.size + 1 + 1) 34 #[.int .i64 5, .int .i64 (1 + t % 6), .int .i64 0, .int .i64 (h % 13), .int .i64 (1 + ep % 4294967295), .int .i64 0, .int .i64 (sq % 65536), .int .i64 0, .slice A9 (1 + N) c9] := by simpa using KCa.set_ 8 (.slice A9 (1 + N) c9)
            have KBs := KBa.far (p := ⟨w.heap.size + 1 + 1, 8, none⟩) (by simp) (.slice A9 (1 + N) c9)
            have ho9 : OwnB w' W.heap.size A9 (1 + N) c9 (UInt8.ofNat (sq % 256).toNat :: l.take N) := by
              have e0 : ([.int .u8 (sq % 256)] ++ (l.take N).map byV : List Value) = (UInt8.ofNat (sq % 256).toNat :: l.take N).map byV := by simp [byV]; omega
              rw [e0] at ho'
              exact ho'
            have ho8 := OwnB.of_heap' ho9 (w' := w'.setCell ⟨w.heap.size + 1 + 1, 8, none⟩ (.slice A9 (1 + N) c9)) (fun g hg _ => Below.heap_setCell w' _ _ g (by simp; omega))
            have hbs := hba.setCell (p := ⟨w.heap.size + 1 + 1, 8, none⟩) (by simp; omega) (.slice A9 (1 + N) c9)
            obtain ⟨q0, q1, q2, q3, q4, q5, q6, q7, q8, qf⟩ := KCs.nine
            obtain ⟨p0, p1, p2, p3, p4, p5, p6, p7, p8, pf⟩ := KBs.nine
            go_wp2_with fail
            refine bodyPost_ret (v := .agg #[.int .i64 5, .int .i64 (1 + t % 6), .int .i64 0, .int .i64 (h % 13), .int .i64 (1 + ep % 4294967295), .int .i64 0, .int .i64 (sq % 65536), .int .i64 0, .slice A9 (1 + N) c9]) (by simp [results, Try.results47, go_sem, p0, p1, p2, p3, p4, p5, p6, p7, p8]) rfl ?_
            have hfin := own_set9' (g := w.heap.size + 1) ho8 (by omega) (.int .i64 5) (.int .i64 (1 + t % 6)) (.int .i64 0) (.int .i64 (h % 13)) (.int .i64 (1 + ep % 4294967295)) (.int .i64 0) (.int .i64 (sq % 65536)) (.int .i64 0) (.slice A9 (1 + N) c9)
            refine ⟨_, _, _, _, _, _, _, _, A9, 1 + N, c9, _, rfl, by unfold SgOk; omega, hfin.by_, hc9, ?_⟩
            repeat (refine Below.setCell ?_ (by first | (simp; done) | (simp; omega)) _)
            exact hba
        · have hm2 : ¬ (N : Int) ≤ 255 := by omega
          have hm3 : (0 : Int) ≤ (N : Int) := by omega
          have hm4 : (255 : Int) ≤ (c : Int) := by omega
          have hm5 : (255 : Int) < (N : Int) := by omega
          have hnew : By ((W.alloc (.cells #[.int .u8 (sq % 256)] 5)).drew) (W.alloc (.cells #[.int .u8 (sq % 256)] 5)).drew.heap.size A 255 (l.take 255) := (hlW.boxed (.cells #[.int .u8 (sq % 256)] 5)).front (k := 255) (by omega)
          (go_region_held3 (fun w' => w'.cell? ⟨w.heap.size, 6, none⟩ = some (.int .i64 sq) ∧ w'.cell? ⟨w.heap.size, 8, none⟩ = some (.slice A N c)) (first | exact ⟨KA.cell 6, KA.cell 8⟩ | exact ⟨KAl.cell 6, KAl.cell 8⟩ | exact ⟨KAa.cell 6, KAa.cell 8⟩ | exact ⟨(KAa.far (p := ⟨w.heap.size + 1 + 1, 8, none⟩) (by simp; omega) _).cell 6, (KAa.far (p := ⟨w.heap.size + 1 + 1, 8, none⟩) (by simp; omega) _).cell 8⟩) ((rw [if_pos (by rfl)]; refine wp_append_rd _ _ _ 32 rfl W.heap.size 5 i0 _ 1 1 Try.underlying32 hi0 hz0 hz1 hz2 rfl (by omega) (.slice (some ⟨W.heap.size, 0, none⟩) 1 1) 1 [.int .u8 (sq % 256)] rfl hown _ A 255 c ((l.take 255).map byV) rfl hnew (byV_one _) (by unfold maxLen; omega) (by omega) hbase ?_; intro v' w' ho' hg' ha'; obtain ⟨A9, c9, rfl, hc9, hf9⟩ := own_any ho'; have KAa := KAl.grown hg' (fun e => by have h9 : w.heap.size = W.heap.size := Option.some.inj e; omega); have KBa := KBl.grown hg' (fun e => by have h9 : w.heap.size + 1 = W.heap.size := Option.some.inj e; omega); have KCa := KCl.grown hg' (fun e => by have h9 : w.heap.size + 1 + 1 = W.heap.size := Option.some.inj e; omega); obtain ⟨q0, q1, q2, q3, q4, q5, q6, q7, q8, qf⟩ := KCa.nine; have hba := hbl.grown hg' hbl.size (fun j hj => by have h9 : W.heap.size = j := Option.some.inj hj; omega))))
          all_goals
            have KCs : Bk (w'.setCell ⟨w.heap.size + 1 + 1, 8, none⟩ (.slice A9 (1 + 255) c9)) (w.heap.size + 1 + 1) 34 #[.int .i64 5, .int .i64 (1 + t % 6), .int .i64 0, .int .i64 (h % 13), .int .i64 (1 + ep % 4294967295), .int .i64 0, .int .i64 (sq % 65536), .int .i64 0, .slice A9 (1 + 255) c9] := by simpa using KCa.set_ 8 (.slice A9 (1 + 255) c9)
            have KBs := KBa.far (p := ⟨w.heap.size + 1 + 1, 8, none⟩) (by simp) (.slice A9 (1 + 255) c9)
            have ho9 : OwnB w' W.heap.size A9 (1 + 255) c9 (UInt8.ofNat (sq % 256).toNat :: l.take 255) := by
              have e0 : ([.int .u8 (sq % 256)] ++ (l.take 255).map byV : List Value) = (UInt8.ofNat (sq % 256).toNat :: l.take 255).map byV := by simp [byV]; omega
              rw [e0] at ho'
              exact ho'
            have ho8 := OwnB.of_heap' ho9 (w' := w'.setCell ⟨w.heap.size + 1 + 1, 8, none⟩ (.slice A9 (1 + 255) c9)) (fun g hg _ => Below.heap_setCell w' _ _ g (by simp; omega))
            have hbs := hba.setCell (p := ⟨w.heap.size + 1 + 1, 8, none⟩) (by simp; omega) (.slice A9 (1 + 255) c9)
            obtain ⟨q0, q1, q2, q3, q4, q5, q6, q7, q8, qf⟩ := KCs.nine
            obtain ⟨p0, p1, p2, p3, p4, p5, p6, p7, p8, pf⟩ := KBs.nine
            go_wp2_with fail
            refine bodyPost_ret (v := .agg #[.int .i64 5, .int .i64 (1 + t % 6), .int .i64 0, .int .i64 (h % 13), .int .i64 (1 + ep % 4294967295), .int .i64 0, .int .i64 (sq % 65536), .int .i64 0, .slice A9 (1 + 255) c9]) (by simp [results, Try.results47, go_sem, p0, p1, p2, p3, p4, p5, p6, p7, p8]) rfl ?_
            have hfin := own_set9' (g := w.heap.size + 1) ho8 (by omega) (.int .i64 5) (.int .i64 (1 + t % 6)) (.int .i64 0) (.int .i64 (h % 13)) (.int .i64 (1 + ep % 4294967295)) (.int .i64 0) (.int .i64 (sq % 65536)) (.int .i64 0) (.slice A9 (1 + 255) c9)
            refine ⟨_, _, _, _, _, _, _, _, A9, 1 + 255, c9, _, rfl, by unfold SgOk; omega, hfin.by_, hc9, ?_⟩
            repeat (refine Below.setCell ?_ (by first | (simp; done) | (simp; omega)) _)
            exact hba
      · go_upto_region 17 with (first | (go_at_call 20; refine (bring_any _ _ _ (by omega) (by omega) (by omega) (by omega)).mono ?_; rintro e w1 ⟨rfl, rfl⟩))
        have KA := ((KW.alloc (.cells #[.int .i64 0, .int .i64 0, .int .i64 0, .int .i64 0, .int .i64 0, .int .i64 0, .int .i64 0, .int .i64 0, .slice none 0 0] 34)).alloc (.cells #[.int .i64 5, .int .i64 0, .int .i64 (1 + t % 6), .int .i64 (h % 13), .int .i64 (1 + ep % 4294967295), .int .i64 0, .int .i64 (sq % 65536), .int .i64 0, .slice none 0 0] 34)).drew
        have KB := (Bk.newAt' (w := (w.alloc (.cells #[.int .i64 k, .int .i64 t, .int .i64 f, .int .i64 h, .int .i64 ep, .int .i64 bo, .int .i64 sq, .int .i64 ac, .slice A N c] 34))) 34 #[.int .i64 0, .int .i64 0, .int .i64 0, .int .i64 0, .int .i64 0, .int .i64 0, .int .i64 0, .int .i64 0, .slice none 0 0] (World.size_alloc _ _)).alloc (.cells #[.int .i64 5, .int .i64 0, .int .i64 (1 + t % 6), .int .i64 (h % 13), .int .i64 (1 + ep % 4294967295), .int .i64 0, .int .i64 (sq % 65536), .int .i64 0, .slice none 0 0] 34) |>.drew
        have KC := (Bk.newAt' (w := ((w.alloc (.cells #[.int .i64 k, .int .i64 t, .int .i64 f, .int .i64 h, .int .i64 ep, .int .i64 bo, .int .i64 sq, .int .i64 ac, .slice A N c] 34)).alloc (.cells #[.int .i64 0, .int .i64 0, .int .i64 0, .int .i64 0, .int .i64 0, .int .i64 0, .int .i64 0, .int .i64 0, .slice none 0 0] 34))) (n := w.heap.size + 1 + 1) 34 #[.int .i64 5, .int .i64 0, .int .i64 (1 + t % 6), .int .i64 (h % 13), .int .i64 (1 + ep % 4294967295), .int .i64 0, .int .i64 (sq % 65536), .int .i64 0, .slice none 0 0] (by rw [World.size_alloc, World.size_alloc])).drew
        have hlW : By (((w.alloc (.cells #[.int .i64 k, .int .i64 t, .int .i64 f, .int .i64 h, .int .i64 ep, .int .i64 bo, .int .i64 sq, .int .i64 ac, .slice A N c] 34)).alloc (.cells #[.int .i64 0, .int .i64 0, .int .i64 0, .int .i64 0, .int .i64 0, .int .i64 0, .int .i64 0, .int .i64 0, .slice none 0 0] 34)).alloc (.cells #[.int .i64 5, .int .i64 0, .int .i64 (1 + t % 6), .int .i64 (h % 13), .int .i64 (1 + ep % 4294967295), .int .i64 0, .int .i64 (sq % 65536), .int .i64 0, .slice none 0 0] 34)).drew (((w.alloc (.cells #[.int .i64 k, .int .i64 t, .int .i64 f, .int .i64 h, .int .i64 ep, .int .i64 bo, .int .i64 sq, .int .i64 ac, .slice A N c] 34)).alloc (.cells #[.int .i64 0, .int .i64 0, .int .i64 0, .int .i64 0, .int .i64 0, .int .i64 0, .int .i64 0, .int .i64 0, .slice none 0 0] 34)).alloc (.cells #[.int .i64 5, .int .i64 0, .int .i64 (1 + t % 6), .int .i64 (h % 13), .int .i64 (1 + ep % 4294967295), .int .i64 0, .int .i64 (sq % 65536), .int .i64 0, .slice none 0 0] 34)).drew.heap.size A N l := (((hl.boxed _).boxed _).boxed _).drew
        have hbW := ((((Below.refl w.heap.size w).push (.cells #[.int .i64 k, .int .i64 t, .int .i64 f, .int .i64 h, .int .i64 ep, .int .i64 bo, .int .i64 sq, .int .i64 ac, .slice A N c] 34)).push (.cells #[.int .i64 0, .int .i64 0, .int .i64 0, .int .i64 0, .int .i64 0, .int .i64 0, .int .i64 0, .int .i64 0, .slice none 0 0] 34)).push (.cells #[.int .i64 5, .int .i64 0, .int .i64 (1 + t % 6), .int .i64 (h % 13), .int .i64 (1 + ep % 4294967295), .int .i64 0, .int .i64 (sq % 65536), .int .i64 0, .slice none 0 0] 34)).drew
        have hsW : (((w.alloc (.cells #[.int .i64 k, .int .i64 t, .int .i64 f, .int .i64 h, .int .i64 ep, .int .i64 bo, .int .i64 sq, .int .i64 ac, .slice A N c] 34)).alloc (.cells #[.int .i64 0, .int .i64 0, .int .i64 0, .int .i64 0, .int .i64 0, .int .i64 0, .int .i64 0, .int .i64 0, .slice none 0 0] 34)).alloc (.cells #[.int .i64 5, .int .i64 0, .int .i64 (1 + t % 6), .int .i64 (h % 13), .int .i64 (1 + ep % 4294967295), .int .i64 0, .int .i64 (sq % 65536), .int .i64 0, .slice none 0 0] 34)).drew.heap.size = w.heap.size + 1 + 1 + 1 := by show (((w.alloc (.cells #[.int .i64 k, .int .i64 t, .int .i64 f, .int .i64 h, .int .i64 ep, .int .i64 bo, .int .i64 sq, .int .i64 ac, .slice A N c] 34)).alloc (.cells #[.int .i64 0, .int .i64 0, .int .i64 0, .int .i64 0, .int .i64 0, .int .i64 0, .int .i64 0, .int .i64 0, .slice none 0 0] 34)).alloc (.cells #[.int .i64 5, .int .i64 0, .int .i64 (1 + t % 6), .int .i64 (h % 13), .int .i64 (1 + ep % 4294967295), .int .i64 0, .int .i64 (sq % 65536), .int .i64 0, .slice none 0 0] 34)).heap.size = _; rw [World.size_alloc, World.size_alloc, World.size_alloc]
        have hsh := Lib.hid hsW
        clear hsW KS KW
        generalize (((w.alloc (.cells #[.int .i64 k, .int .i64 t, .int .i64 f, .int .i64 h, .int .i64 ep, .int .i64 bo, .int .i64 sq, .int .i64 ac, .slice A N c] 34)).alloc (.cells #[.int .i64 0, .int .i64 0, .int .i64 0, .int .i64 0, .int .i64 0, .int .i64 0, .int .i64 0, .int .i64 0, .slice none 0 0] 34)).alloc (.cells #[.int .i64 5, .int .i64 0, .int .i64 (1 + t % 6), .int .i64 (h % 13), .int .i64 (1 + ep % 4294967295), .int .i64 0, .int .i64 (sq % 65536), .int .i64 0, .slice none 0 0] 34)).drew = W at KA KB KC hlW hbW hsh ⊢
        obtain ⟨i0, hi0, hz0, hz1, hz2⟩ := info_parts info5
        have KAl := (KA.alloc (.cells #[.int .u8 (sq % 256)] 5)).drew
        have KBl := (KB.alloc (.cells #[.int .u8 (sq % 256)] 5)).drew
        have KCl := (KC.alloc (.cells #[.int .u8 (sq % 256)] 5)).drew
        have hbl := (hbW.push (.cells #[.int .u8 (sq % 256)] 5)).drew
        have hszl : W.heap.size + 1 ≤ (W.alloc (.cells #[.int .u8 (sq % 256)] 5)).drew.heap.size := by show _ ≤ (W.alloc _).heap.size; rw [World.size_alloc]; omega
        have hbase : W.heap.size ≤ (W.alloc (.cells #[.int .u8 (sq % 256)] 5)).drew.heap.size := by omega
        have hgA := KA.lt
        have hgB := KB.lt
        have hgC := KC.lt
        have hown : ((W.alloc (.cells #[.int .u8 (sq % 256)] 5)).drew).ownsRow W.heap.size 5 1 (.slice (some ⟨W.heap.size, 0, none⟩) 1 1) 1 [.int .u8 (sq % 256)] := own_new W 5 #[.int .u8 (sq % 256)] (by simp [maxLen])
        by_cases hm : N ≤ 255
        · have hm2 : (N : Int) ≤ 255 := by omega
          have hm3 : (0 : Int) ≤ (N : Int) := by omega
          have hm4 : (N : Int) ≤ (c : Int) := by omega
          have hm5 : ¬ (255 : Int) < (N : Int) := by omega
          have hnew : By ((W.alloc (.cells #[.int .u8 (sq % 256)] 5)).drew) (W.alloc (.cells #[.int .u8 (sq % 256)] 5)).drew.heap.size A N (l.take N) := (hlW.boxed (.cells #[.int .u8 (sq % 256)] 5)).front (k := N) (by omega)
          (go_region_held3 (fun w' => w'.cell? ⟨w.heap.size, 6, none⟩ = some (.int .i64 sq) ∧ w'.cell? ⟨w.heap.size, 8, none⟩ = some (.slice A N c)) (first | exact ⟨KA.cell 6, KA.cell 8⟩ | exact ⟨KAl.cell 6, KAl.cell 8⟩ | exact ⟨KAa.cell 6, KAa.cell 8⟩ | exact ⟨(KAa.far (p := ⟨w.heap.size + 1 + 1, 8, none⟩) (by simp; omega) _).cell 6, (KAa.far (p := ⟨w.heap.size + 1 + 1, 8, none⟩) (by simp; omega) _).cell 8⟩) ((rw [if_pos (by rfl)]; refine wp_append_rd _ _ _ 32 rfl W.heap.size 5 i0 _ 1 1 Try.underlying32 hi0 hz0 hz1 hz2 rfl (by omega) (.slice (some ⟨W.heap.size, 0, none⟩) 1 1) 1 [.int .u8 (sq % 256)] rfl hown _ A N c ((l.take N).map byV) rfl hnew (byV_one _) (by unfold maxLen; omega) (by omega) hbase ?_; intro v' w' ho' hg' ha'; obtain ⟨A9, c9, rfl, hc9, hf9⟩ := own_any ho'; have KAa := KAl.grown hg' (fun e => by have h9 : w.heap.size = W.heap.size := Option.some.inj e; omega); have KBa := KBl.grown hg' (fun e => by have h9 : w.heap.size + 1 = W.heap.size := Option.some.inj e; omega); have KCa := KCl.grown hg' (fun e => by have h9 : w.heap.size + 1 + 1 = W.heap.size := Option.some.inj e; omega); obtain ⟨q0, q1, q2, q3, q4, q5, q6, q7, q8, qf⟩ := KCa.nine; have hba := hbl.grown hg' hbl.size (fun j hj => by have h9 : W.heap.size = j := Option.some.inj hj; omega))))
          all_goals
            have KCs : Bk (w'.setCell ⟨w.heap.size + 1 + 1, 8, none⟩ (.slice A9 (1 + N) c9)) (w.heap.size + 1 + 1) 34 #[.int .i64 5, .int .i64 0, .int .i64 (1 + t % 6), .int .i64 (h % 13), .int .i64 (1 + ep % 4294967295), .int .i64 0, .int .i64 (sq % 65536), .int .i64 0, .slice A9 (1 + N) c9] := by simpa using KCa.set_ 8 (.slice A9 (1 + N) c9)
            have KBs := KBa.far (p := ⟨w.heap.size + 1 + 1, 8, none⟩) (by simp) (.slice A9 (1 + N) c9)
            have ho9 : OwnB w' W.heap.size A9 (1 + N) c9 (UInt8.ofNat (sq % 256).toNat :: l.take N) := by
              have e0 : ([.int .u8 (sq % 256)] ++ (l.take N).map byV : List Value) = (UInt8.ofNat (sq % 256).toNat :: l.take N).map byV := by simp [byV]; omega
              rw [e0] at ho'
              exact ho'
            have ho8 := OwnB.of_heap' ho9 (w' := w'.setCell ⟨w.heap.size + 1 + 1, 8, none⟩ (.slice A9 (1 + N) c9)) (fun g hg _ => Below.heap_setCell w' _ _ g (by simp; omega))
            have hbs := hba.setCell (p := ⟨w.heap.size + 1 + 1, 8, none⟩) (by simp; omega) (.slice A9 (1 + N) c9)
            obtain ⟨q0, q1, q2, q3, q4, q5, q6, q7, q8, qf⟩ := KCs.nine
            obtain ⟨p0, p1, p2, p3, p4, p5, p6, p7, p8, pf⟩ := KBs.nine
            go_wp2_with fail
            refine bodyPost_ret (v := .agg #[.int .i64 5, .int .i64 0, .int .i64 (1 + t % 6), .int .i64 (h % 13), .int .i64 (1 + ep % 4294967295), .int .i64 0, .int .i64 (sq % 65536), .int .i64 0, .slice A9 (1 + N) c9]) (by simp [results, Try.results47, go_sem, p0, p1, p2, p3, p4, p5, p6, p7, p8]) rfl ?_
            have hfin := own_set9' (g := w.heap.size + 1) ho8 (by omega) (.int .i64 5) (.int .i64 0) (.int .i64 (1 + t % 6)) (.int .i64 (h % 13)) (.int .i64 (1 + ep % 4294967295)) (.int .i64 0) (.int .i64 (sq % 65536)) (.int .i64 0) (.slice A9 (1 + N) c9)
            refine ⟨_, _, _, _, _, _, _, _, A9, 1 + N, c9, _, rfl, by unfold SgOk; omega, hfin.by_, hc9, ?_⟩
            repeat (refine Below.setCell ?_ (by first | (simp; done) | (simp; omega)) _)
            exact hba
        · have hm2 : ¬ (N : Int) ≤ 255 := by omega
          have hm3 : (0 : Int) ≤ (N : Int) := by omega
          have hm4 : (255 : Int) ≤ (c : Int) := by omega
          have hm5 : (255 : Int) < (N : Int) := by omega
          have hnew : By ((W.alloc (.cells #[.int .u8 (sq % 256)] 5)).drew) (W.alloc (.cells #[.int .u8 (sq % 256)] 5)).drew.heap.size A 255 (l.take 255) := (hlW.boxed (.cells #[.int .u8 (sq % 256)] 5)).front (k := 255) (by omega)
          (go_region_held3 (fun w' => w'.cell? ⟨w.heap.size, 6, none⟩ = some (.int .i64 sq) ∧ w'.cell? ⟨w.heap.size, 8, none⟩ = some (.slice A N c)) (first | exact ⟨KA.cell 6, KA.cell 8⟩ | exact ⟨KAl.cell 6, KAl.cell 8⟩ | exact ⟨KAa.cell 6, KAa.cell 8⟩ | exact ⟨(KAa.far (p := ⟨w.heap.size + 1 + 1, 8, none⟩) (by simp; omega) _).cell 6, (KAa.far (p := ⟨w.heap.size + 1 + 1, 8, none⟩) (by simp; omega) _).cell 8⟩) ((rw [if_pos (by rfl)]; refine wp_append_rd _ _ _ 32 rfl W.heap.size 5 i0 _ 1 1 Try.underlying32 hi0 hz0 hz1 hz2 rfl (by omega) (.slice (some ⟨W.heap.size, 0, none⟩) 1 1) 1 [.int .u8 (sq % 256)] rfl hown _ A 255 c ((l.take 255).map byV) rfl hnew (byV_one _) (by unfold maxLen; omega) (by omega) hbase ?_; intro v' w' ho' hg' ha'; obtain ⟨A9, c9, rfl, hc9, hf9⟩ := own_any ho'; have KAa := KAl.grown hg' (fun e => by have h9 : w.heap.size = W.heap.size := Option.some.inj e; omega); have KBa := KBl.grown hg' (fun e => by have h9 : w.heap.size + 1 = W.heap.size := Option.some.inj e; omega); have KCa := KCl.grown hg' (fun e => by have h9 : w.heap.size + 1 + 1 = W.heap.size := Option.some.inj e; omega); obtain ⟨q0, q1, q2, q3, q4, q5, q6, q7, q8, qf⟩ := KCa.nine; have hba := hbl.grown hg' hbl.size (fun j hj => by have h9 : W.heap.size = j := Option.some.inj hj; omega))))
          all_goals
            have KCs : Bk (w'.setCell ⟨w.heap.size + 1 + 1, 8, none⟩ (.slice A9 (1 + 255) c9)) (w.heap.size + 1 + 1) 34 #[.int .i64 5, .int .i64 0, .int .i64 (1 + t % 6), .int .i64 (h % 13), .int .i64 (1 + ep % 4294967295), .int .i64 0, .int .i64 (sq % 65536), .int .i64 0, .slice A9 (1 + 255) c9] := by simpa using KCa.set_ 8 (.slice A9 (1 + 255) c9)
            have KBs := KBa.far (p := ⟨w.heap.size + 1 + 1, 8, none⟩) (by simp) (.slice A9 (1 + 255) c9)
            have ho9 : OwnB w' W.heap.size A9 (1 + 255) c9 (UInt8.ofNat (sq % 256).toNat :: l.take 255) := by
              have e0 : ([.int .u8 (sq % 256)] ++ (l.take 255).map byV : List Value) = (UInt8.ofNat (sq % 256).toNat :: l.take 255).map byV := by simp [byV]; omega
              rw [e0] at ho'
              exact ho'
            have ho8 := OwnB.of_heap' ho9 (w' := w'.setCell ⟨w.heap.size + 1 + 1, 8, none⟩ (.slice A9 (1 + 255) c9)) (fun g hg _ => Below.heap_setCell w' _ _ g (by simp; omega))
            have hbs := hba.setCell (p := ⟨w.heap.size + 1 + 1, 8, none⟩) (by simp; omega) (.slice A9 (1 + 255) c9)
            obtain ⟨q0, q1, q2, q3, q4, q5, q6, q7, q8, qf⟩ := KCs.nine
            obtain ⟨p0, p1, p2, p3, p4, p5, p6, p7, p8, pf⟩ := KBs.nine
            go_wp2_with fail
            refine bodyPost_ret (v := .agg #[.int .i64 5, .int .i64 0, .int .i64 (1 + t % 6), .int .i64 (h % 13), .int .i64 (1 + ep % 4294967295), .int .i64 0, .int .i64 (sq % 65536), .int .i64 0, .slice A9 (1 + 255) c9]) (by simp [results, Try.results47, go_sem, p0, p1, p2, p3, p4, p5, p6, p7, p8]) rfl ?_
            have hfin := own_set9' (g := w.heap.size + 1) ho8 (by omega) (.int .i64 5) (.int .i64 0) (.int .i64 (1 + t % 6)) (.int .i64 (h % 13)) (.int .i64 (1 + ep % 4294967295)) (.int .i64 0) (.int .i64 (sq % 65536)) (.int .i64 0) (.slice A9 (1 + 255) c9)
            refine ⟨_, _, _, _, _, _, _, _, A9, 1 + 255, c9, _, rfl, by unfold SgOk; omega, hfin.by_, hc9, ?_⟩
            repeat (refine Below.setCell ?_ (by first | (simp; done) | (simp; omega)) _)
            exact hba
theorem made05_any (k t f h ep bo sq ac : Int) (A : Option Addr) (N c : Nat) (l : List UInt8) (w : World) (y1 : I64 k) (y2 : I64 t) (y3 : I64 f) (y4 : I64 h) (y5 : I64 ep) (y6 : I64 bo) (y7 : I64 sq) (y8 : I64 ac) (hl : By w w.heap.size A N l) (hc : N ≤ c) :
    Calls Try.prog 47 #[.agg (sgC k t f h ep bo sq ac A N c)] w fun e w' => ∃ k' t' f' h' ep' bo' sq' ac' A' N' c' l', e = .returned (.agg (sgC k' t' f' h' ep' bo' sq' ac' A' N' c')) ∧ SgOk k' t' f' h' ep' bo' sq' ac' N' ∧ By w' w'.heap.size A' N' l' ∧ N' ≤ c' ∧ Below w.heap.size w w' :=
  (made05_q k t f h ep bo sq ac A N c l w y1 y2 y3 y4 y5 y6 y7 y8 hl hc).mono fun _ _ h => h
end Go.Proofs.Ytfnnjaljnfphlaa
