/- SegKnown: its walk. -/
import Derived.Test.YtfnnjaljnfphlaaL5k
import Derived.Test.YtfnnjaljnfphlaaL04a
import Derived.Test.YtfnnjaljnfphlaaL5p
import Derived.Test.YtfnnjaljnfphlaaL5b
import Derived.Deep.DeepCutAuto
import Derived.Deep.CutRange
import Derived.Deep.LoopGhost
import Derived.Deep.CutBlock
namespace Go.Proofs.Ytfnnjaljnfphlaa
open Go.RowKit
set_option maxRecDepth 100000
set_option maxHeartbeats 8000000
set_option linter.unusedSimpArgs false
set_option linter.unusedVariables false

def endsA : Array Value := #[.int .i64 (-9223372036854775808), .int .i64 (-1), .int .i64 0, .int .i64 1, .int .i64 6, .int .i64 7, .int .i64 12, .int .i64 13, .int .i64 255, .int .i64 256, .int .i64 65535, .int .i64 65536, .int .i64 4294967295, .int .i64 4294967296, .int .i64 9223372036854775807]
theorem ends_at {w : World} {g j : Nat} (h : Bk w g 3 endsA) (hj : j < 15) : ∃ n : Int, I64 n ∧ w.cell? ⟨g, j, none⟩ = some (.int .i64 n) := by
  rw [h.cell]
  unfold endsA I64
  match j, hj with
  | 0, _ => exact ⟨_, by omega, rfl⟩
  | 1, _ => exact ⟨_, by omega, rfl⟩
  | 2, _ => exact ⟨_, by omega, rfl⟩
  | 3, _ => exact ⟨_, by omega, rfl⟩
  | 4, _ => exact ⟨_, by omega, rfl⟩
  | 5, _ => exact ⟨_, by omega, rfl⟩
  | 6, _ => exact ⟨_, by omega, rfl⟩
  | 7, _ => exact ⟨_, by omega, rfl⟩
  | 8, _ => exact ⟨_, by omega, rfl⟩
  | 9, _ => exact ⟨_, by omega, rfl⟩
  | 10, _ => exact ⟨_, by omega, rfl⟩
  | 11, _ => exact ⟨_, by omega, rfl⟩
  | 12, _ => exact ⟨_, by omega, rfl⟩
  | 13, _ => exact ⟨_, by omega, rfl⟩
  | 14, _ => exact ⟨_, by omega, rfl⟩
/-- A segment lies in block g. -/
def SgAt (wx : World) (g : Nat) : Prop := ∃ (k t f h ep bo sq ac : Int) (A : Option Addr) (N c : Nat) (l : List UInt8), (I64 k ∧ I64 t ∧ I64 f ∧ I64 h ∧ I64 ep ∧ I64 bo ∧ I64 sq ∧ I64 ac) ∧
  Bk wx g 34 #[.int .i64 k, .int .i64 t, .int .i64 f, .int .i64 h, .int .i64 ep, .int .i64 bo, .int .i64 sq, .int .i64 ac, .slice A N c] ∧ By wx wx.heap.size A N l ∧ N ≤ c ∧ N ≤ 300
structure TK (w : World) (ge g : Nat) (cs : Array Value) (A : Option Addr) (N : Nat) (l : List UInt8) (w' : World) : Prop where
  e : Bk w' ge 3 endsA
  k : Bk w' g 34 cs
  hl : By w' w'.heap.size A N l
  hb : Below w.heap.size w w'
theorem TK.next {w : World} {ge g : Nat} {cs : Array Value} {A : Option Addr} {N : Nat} {l : List UInt8} {w' w'' : World} (h : TK w ge g cs A N l w') (hb : Below w'.heap.size w' w'') : TK w ge g cs A N l w'' :=
  ⟨h.e.kept hb, h.k.kept hb, h.hl.kept hb, h.hb.next hb⟩
theorem TK.drew {w : World} {ge g : Nat} {cs : Array Value} {A : Option Addr} {N : Nat} {l : List UInt8} {w' : World} (h : TK w ge g cs A N l w') : TK w ge g cs A N l w'.drew := ⟨h.e, h.k, h.hl, h.hb.drew⟩
theorem TK.s {w : World} {ge g : Nat} {v0 v1 v2 v3 v4 v5 v6 v7 v8 : Value} {A : Option Addr} {N : Nat} {l : List UInt8} {w' : World} (h : TK w ge g #[v0, v1, v2, v3, v4, v5, v6, v7, v8] A N l w') :
    TK w ge g #[v0, v1, v2, v3, v4, v5, v6, v7, v8] A N l w' ∧ w'.cell? ⟨g, 0, none⟩ = some v0 ∧ w'.cell? ⟨g, 1, none⟩ = some v1 ∧ w'.cell? ⟨g, 2, none⟩ = some v2 ∧ w'.cell? ⟨g, 3, none⟩ = some v3 ∧ w'.cell? ⟨g, 4, none⟩ = some v4 ∧ w'.cell? ⟨g, 5, none⟩ = some v5 ∧ w'.cell? ⟨g, 6, none⟩ = some v6 ∧ w'.cell? ⟨g, 7, none⟩ = some v7 ∧ w'.cell? ⟨g, 8, none⟩ = some v8 := by
  obtain ⟨c0, c1, c2, c3, c4, c5, c6, c7, c8, f0⟩ := h.k.nine
  exact ⟨h, c0, c1, c2, c3, c4, c5, c6, c7, c8⟩

theorem segKnown_walk (w : World) : Calls Try.prog 14 #[] w fun e w' => e = .returned (.bool true) ∧ Below w.heap.size w w' := by
  have KE := Bk.new w 3 endsA
  have hb := (Below.refl w.heap.size w).push (.cells endsA 3)
  unfold endsA at KE hb
  go_enter Try.func14, Try.ntmps14
  go_upto_region 2 with fail
  generalize w.alloc _ = w1 at KE hb ⊢
  obtain ⟨ge, hge⟩ : ∃ ge, ge = w.heap.size := ⟨_, rfl⟩
  rw [← hge] at KE ⊢
  have hgeh := Lib.hid hge
  have hge1 : w.heap.size ≤ ge := by omega
  clear hge
  go_wp2_with fail
  go_loopw [2] (fun i wr => ∃ kd : Int, -1 ≤ kd ∧ kd ≤ 8 ∧ i = .int .i64 kd ∧ Bk wr ge 3 endsA ∧ Below w.heap.size w wr) (fun i _ => (8 - intOf i).toNat)
  case atStart => exact ⟨-1, by omega, by omega, rfl, KE, hb⟩
  case round =>
    clear KE hb
    obtain ⟨kd, hk1, hk2, rfl, KE, hb⟩ := hrel
    obtain ⟨wo1, rfl⟩ : ∃ wo : World, wo = wr := ⟨_, rfl⟩
    by_cases hlt : kd < 8
    · go_wp2_with fail
      go_loopw [3] (fun i wr => ∃ j : Nat, j ≤ 2 ∧ i = .int .i64 j ∧ Bk wr ge 3 endsA ∧ Below w.heap.size w wr) (fun i _ => 2 - (intOf i).toNat)
      case atStart => exact ⟨0, by omega, rfl, KE, hb⟩
      case round =>
        clear KE hb
        obtain ⟨j1, hj1, rfl, KE, hb⟩ := hrel
        obtain ⟨wo2, rfl⟩ : ∃ wo : World, wo = wr := ⟨_, rfl⟩
        by_cases hlt1 : j1 < 2
        · have hl1 : (j1 : Int) < 2 := by omega
          go_wp2_with fail
          go_loopw [4] (fun i wr => ∃ j : Nat, j ≤ 15 ∧ i = .int .i64 j ∧ Bk wr ge 3 endsA ∧ Below w.heap.size w wr) (fun i _ => 15 - (intOf i).toNat)
          case atStart => exact ⟨0, by omega, rfl, KE, hb⟩
          case round =>
            clear KE hb
            obtain ⟨j2, hj2, rfl, KE, hb⟩ := hrel
            obtain ⟨wo3, rfl⟩ : ∃ wo : World, wo = wr := ⟨_, rfl⟩
            by_cases hlt2 : j2 < 15
            · have hl2 : (j2 : Int) < 15 := by omega
              go_wp2_with fail
              go_loopw [5] (fun i wr => ∃ j : Nat, j ≤ 8 ∧ i = .int .i64 j ∧ Bk wr ge 3 endsA ∧ Below w.heap.size w wr) (fun i _ => 8 - (intOf i).toNat)
              case atStart => exact ⟨0, by omega, rfl, KE, hb⟩
              case round =>
                clear KE hb
                obtain ⟨j3, hj3, rfl, KE, hb⟩ := hrel
                obtain ⟨wo4, rfl⟩ : ∃ wo : World, wo = wr := ⟨_, rfl⟩
                by_cases hlt3 : j3 < 8
                · have hl3 : (j3 : Int) < 8 := by omega
                  go_wp2_with fail
                  go_loopw [6] (fun i wr => ∃ j : Nat, j ≤ 2 ∧ i = .int .i64 j ∧ Bk wr ge 3 endsA ∧ Below w.heap.size w wr) (fun i _ => 2 - (intOf i).toNat)
                  case atStart => exact ⟨0, by omega, rfl, KE, hb⟩
                  case round =>
                    clear KE hb
                    obtain ⟨j4, hj4, rfl, KE, hb⟩ := hrel
                    obtain ⟨wo5, rfl⟩ : ∃ wo : World, wo = wr := ⟨_, rfl⟩
                    by_cases hlt4 : j4 < 2
                    · have hl4 : (j4 : Int) < 2 := by omega
                      have hgs := KE.lt
                      have KS := Bk.new wo5 34 #[.int .i64 kd, .int .i64 0, .int .i64 0, .int .i64 0, .int .i64 0, .int .i64 0, .int .i64 0, .int .i64 0, .slice none 0 0]
                      have KE := KE.alloc (.cells #[.int .i64 kd, .int .i64 0, .int .i64 0, .int .i64 0, .int .i64 0, .int .i64 0, .int .i64 0, .int .i64 0, .slice none 0 0] 34)
                      have hb := hb.push (.cells #[.int .i64 kd, .int .i64 0, .int .i64 0, .int .i64 0, .int .i64 0, .int .i64 0, .int .i64 0, .int .i64 0, .slice none 0 0] 34)
                      go_upto_region 18 with fail
                      generalize wo5.alloc _ = w2 at KS KE hb ⊢
                      have hg7 : w.heap.size ≤ wo5.heap.size := by omega
                      generalize wo5.heap.size = g7 at KS hgs hg7 ⊢
                      have hf : j4 = 0 ∨ j4 = 1 := by omega
                      have hfb : ((j4 : Int) == 1) = true ∨ ((j4 : Int) == 1) = false := by cases ((j4 : Int) == 1) <;> simp
                      go_upto_if 37 with fail
                      go_cut [7] (fun s7 wx => s7 = .pointer (some ⟨g7, 0, none⟩) ∧ SgAt wx g7 ∧ Bk wx ge 3 endsA ∧ Below w.heap.size w wx)
                      case first =>
                        obtain ⟨c0, c1, c2, c3, c4, c5, c6, c7, c8, f0⟩ := KS.nine
                        have z0 : I64 0 := by unfold I64; omega
                        obtain rfl | rfl : j4 = 0 ∨ j4 = 1 := by omega
                        · obtain rfl | rfl : j1 = 0 ∨ j1 = 1 := by omega
                          · go_wp2_with fail
                            go_meet
                            refine ⟨rfl, ⟨kd, 3, 0, 0, 0, 0, 0, 0, none, 0, 0, [], ?_, by simpa using KS.set_ 1 (.int .i64 3), By.empty, by omega, by omega⟩, KE.far (by simp; omega) _, hb.setCell (by simp; omega) _⟩
                            unfold I64; omega
                          · go_wp2_with fail
                            go_meet
                            refine ⟨rfl, ⟨kd, 0, 3, 0, 0, 0, 0, 0, none, 0, 0, [], ?_, by simpa using KS.set_ 2 (.int .i64 3), By.empty, by omega, by omega⟩, KE.far (by simp; omega) _, hb.setCell (by simp; omega) _⟩
                            unfold I64; omega
                        · have MD := made05_any (kd - 1) 5 (j1 : Int) 0 0 0 0 0 none 0 0 [] w2 (by unfold I64; omega) (by unfold I64; omega) (by unfold I64; omega) z0 z0 z0 z0 z0 By.empty (by omega)
                          unfold sgC at MD
                          have MDh := Lib.hid MD
                          clear MD
                          go_wp2_with fail
                          refine MDh.out.mono ?_
                          rintro e w3 ⟨k', t', f', h', ep', bo', sq', ac', A', N', c', l', rfl, hok', hl', hc', hb3⟩
                          have KS := KS.kept hb3
                          have KE := KE.kept hb3
                          have hb := hb.next hb3
                          have hokh := Lib.hid hok'
                          clear MDh c0 c1 c2 c3 c4 c5 c6 c7 c8 f0 hb3 hok'
                          obtain ⟨c0, c1, c2, c3, c4, c5, c6, c7, c8, f0⟩ := KS.nine
                          go_wp2_with fail
                          go_meet
                          refine ⟨rfl, ⟨k', t', f', h', ep', bo', sq', ac', A', N', c', l', sgOk_I64 hokh.out, KS.set9 _ _ _ _ _ _ _ _ _, ?_, hc', by have := hokh.out; unfold SgOk at this; omega⟩, ?_, below_set9 hb hg7 _ _ _ _ _ _ _ _ _⟩
                          · rw [size9]
                            exact hl'.but KS kind9 (fun b hne => far9 _ _ _ hne _ _ _ _ _ _ _ _ _)
                          · exact (far9 _ _ _ (by omega) _ _ _ _ _ _ _ _ _).trans KE
                      case rest =>
                        obtain ⟨rfl, hS, KE, hb⟩ := hcut
                        obtain ⟨n, hn, hnc⟩ := ends_at KE hlt2
                        have hn' := hn
                        unfold I64 at hn'
                        obtain ⟨k, t, f, h, ep, bo, sq, ac, A, N, c, l, ⟨y1, y2, y3, y4, y5, y6, y7, y8⟩, KS, hl, hc, hN⟩ := hS
                        have hj20 : (0 : Int) ≤ (j2 : Int) := by omega
                        go_upto_block 10 with fail
                        go_cut [7] (fun s7 wx => s7 = .pointer (some ⟨g7, 0, none⟩) ∧ SgAt wx g7 ∧ Bk wx ge 3 endsA ∧ Below w.heap.size w wx)
                        case first =>
                          obtain ⟨c0, c1, c2, c3, c4, c5, c6, c7, c8, f0⟩ := KS.nine
                          obtain ⟨i0, hi0, hz0, hz1, hz2⟩ := info_parts info5
                          have hKS := KS.lt
                          obtain rfl | rfl | rfl | rfl | rfl | rfl | rfl | rfl : j3 = 0 ∨ j3 = 1 ∨ j3 = 2 ∨ j3 = 3 ∨ j3 = 4 ∨ j3 = 5 ∨ j3 = 6 ∨ j3 = 7 := by omega
                          · go_wp2_with fail
                            go_meet
                            exact ⟨rfl, ⟨k, n, f, h, ep, bo, sq, ac, A, N, c, l, ⟨y1, hn, y3, y4, y5, y6, y7, y8⟩, by simpa using KS.set_ 1 (.int .i64 n), (hl.set_nb (i := 1) KS kind9 _).more (by simp), hc, hN⟩, KE.far (by simp; omega) _, hb.setCell (by simp; omega) _⟩
                          · go_wp2_with fail
                            go_meet
                            exact ⟨rfl, ⟨k, t, n, h, ep, bo, sq, ac, A, N, c, l, ⟨y1, y2, hn, y4, y5, y6, y7, y8⟩, by simpa using KS.set_ 2 (.int .i64 n), (hl.set_nb (i := 2) KS kind9 _).more (by simp), hc, hN⟩, KE.far (by simp; omega) _, hb.setCell (by simp; omega) _⟩
                          · go_wp2_with fail
                            go_meet
                            exact ⟨rfl, ⟨k, t, f, n, ep, bo, sq, ac, A, N, c, l, ⟨y1, y2, y3, hn, y5, y6, y7, y8⟩, by simpa using KS.set_ 3 (.int .i64 n), (hl.set_nb (i := 3) KS kind9 _).more (by simp), hc, hN⟩, KE.far (by simp; omega) _, hb.setCell (by simp; omega) _⟩
                          · go_wp2_with fail
                            go_meet
                            exact ⟨rfl, ⟨k, t, f, h, n, bo, sq, ac, A, N, c, l, ⟨y1, y2, y3, y4, hn, y6, y7, y8⟩, by simpa using KS.set_ 4 (.int .i64 n), (hl.set_nb (i := 4) KS kind9 _).more (by simp), hc, hN⟩, KE.far (by simp; omega) _, hb.setCell (by simp; omega) _⟩
                          · go_wp2_with fail
                            go_meet
                            exact ⟨rfl, ⟨k, t, f, h, ep, n, sq, ac, A, N, c, l, ⟨y1, y2, y3, y4, y5, hn, y7, y8⟩, by simpa using KS.set_ 5 (.int .i64 n), (hl.set_nb (i := 5) KS kind9 _).more (by simp), hc, hN⟩, KE.far (by simp; omega) _, hb.setCell (by simp; omega) _⟩
                          · go_wp2_with fail
                            go_meet
                            exact ⟨rfl, ⟨k, t, f, h, ep, bo, n, ac, A, N, c, l, ⟨y1, y2, y3, y4, y5, y6, hn, y8⟩, by simpa using KS.set_ 6 (.int .i64 n), (hl.set_nb (i := 6) KS kind9 _).more (by simp), hc, hN⟩, KE.far (by simp; omega) _, hb.setCell (by simp; omega) _⟩
                          · go_wp2_with fail
                            go_meet
                            exact ⟨rfl, ⟨k, t, f, h, ep, bo, sq, n, A, N, c, l, ⟨y1, y2, y3, y4, y5, y6, y7, hn⟩, by simpa using KS.set_ 7 (.int .i64 n), (hl.set_nb (i := 7) KS kind9 _).more (by simp), hc, hN⟩, KE.far (by simp; omega) _, hb.setCell (by simp; omega) _⟩
                          · have hm : 0 ≤ n % 258 ∧ n % 258 ≤ 257 := by omega
                            obtain ⟨m, hmn⟩ : ∃ m : Nat, n % 258 = (m : Int) := ⟨(n % 258).toNat, by omega⟩
                            have hm2 : m ≤ 257 := by omega
                            have BR := fun w => bring_any n 258 w (by omega) (by omega) (by omega) (by omega)
                            rw [hmn] at BR
                            have BRh := Lib.hid BR
                            clear BR hmn hm
                            go_wp2_with (first | (go_at_call 20; refine (BRh.out _).mono ?_; rintro e w5 ⟨rfl, rfl⟩) | (at_make; refine wpList_make_full _ rfl _ _ 32 rfl wc.heap.size 5 i0 _ 1 Try.underlying32 hi0 hz0 hz1 .i64 .i64 _ _ m rfl rfl rfl rfl (by rw [hz2]; omega) (by unfold maxLen; omega) (Nat.le_refl _) ?_; intro w6 ho6 hg6; have KS := KS.grown hg6 (fun e => by cases e); have KE := KE.grown hg6 (fun e => by cases e); have hb := hb.grown hg6 hb.size (fun j hj => by cases hj); obtain ⟨c0, c1, c2, c3, c4, c5, c6, c7, c8, f0⟩ := KS.nine))
                            go_meet
                            have hB6 : By w6 w6.heap.size (some ⟨wc.heap.size, 0, none⟩) m (List.replicate m 0) := by
                              refine By.of_own (base := wc.heap.size) (e := 5) (c := m) ?_
                              have : (madeCells (Value.int .u8 0).cells (m * 1)).toList = (List.replicate m (0 : UInt8)).map byV := by
                                rw [Nat.mul_one]
                                rw [show (Value.int .u8 0).cells = #[.int .u8 0] from rfl, toList_madeCells_one]
                                simp [byV]
                              rw [← this]
                              exact ho6
                            refine ⟨rfl, ⟨k, t, f, h, ep, bo, sq, ac, _, m, m, _, ⟨y1, y2, y3, y4, y5, y6, y7, y8⟩, by simpa using KS.set_ 8 (.slice (some ⟨wc.heap.size, 0, none⟩) m m), (hB6.set_nb (i := 8) KS kind9 _).more (by simp), Nat.le_refl _, by omega⟩, KE.far (by simp; omega) _, hb.setCell (by simp; omega) _⟩
                        case rest =>
                          obtain ⟨rfl, hS, KE, hb⟩ := hcut
                          clear KS hl hc hN y1 y2 y3 y4 y5 y6 y7 y8
                          obtain ⟨k, t, f, h, ep, bo, sq, ac, A, N, c, l, HI, KS, hl, hc, hN⟩ := hS
                          have HIh := Lib.hid HI
                          clear HI
                          have hT : TK w ge g7 #[.int .i64 k, .int .i64 t, .int .i64 f, .int .i64 h, .int .i64 ep, .int .i64 bo, .int .i64 sq, .int .i64 ac, .slice A N c] A N l wc := ⟨KE, KS, hl, hb⟩
                          obtain ⟨y1, y2, y3, y4, y5, y6, y7, y8⟩ := HIh.out
                          have W4 := fun w hl => segBytes_walk k t f h ep bo sq ac A N c l w hl (by omega)
                          have W47 := fun w hl => made05_any k t f h ep bo sq ac A N c l w y1 y2 y3 y4 y5 y6 y7 y8 hl hc
                          have W5 := fun k' t' f' h' ep' bo' sq' ac' A' N' c' l' w hl hl' => segSame_walk k t f h ep bo sq ac A N c l k' t' f' h' ep' bo' sq' ac' A' N' c' l' w hl hl'
                          unfold sgC at W4 W47 W5
                          have W4h := Lib.hid W4
                          have W47h := Lib.hid W47
                          have W5h := Lib.hid W5
                          clear W4 W47 W5 y1 y2 y3 y4 y5 y6 y7 y8 KE KS hl hb
                          go_upto_region 40 with fail
                          first | (go_region_held3 (fun w' => TK w ge g7 #[.int .i64 k, .int .i64 t, .int .i64 f, .int .i64 h, .int .i64 ep, .int .i64 bo, .int .i64 sq, .int .i64 ac, .slice A N c] A N l w' ∧ w'.cell? ⟨g7, 0, none⟩ = some (.int .i64 k) ∧ w'.cell? ⟨g7, 1, none⟩ = some (.int .i64 t) ∧ w'.cell? ⟨g7, 2, none⟩ = some (.int .i64 f) ∧ w'.cell? ⟨g7, 3, none⟩ = some (.int .i64 h) ∧ w'.cell? ⟨g7, 4, none⟩ = some (.int .i64 ep) ∧ w'.cell? ⟨g7, 5, none⟩ = some (.int .i64 bo) ∧ w'.cell? ⟨g7, 6, none⟩ = some (.int .i64 sq) ∧ w'.cell? ⟨g7, 7, none⟩ = some (.int .i64 ac) ∧ w'.cell? ⟨g7, 8, none⟩ = some (.slice A N c)) (first | exact hT5.s | exact hT.drew.s | exact hT.s | assumption) (first | (go_at_call 4; have hS := ‹_ ∧ _ ∧ _ ∧ _ ∧ _ ∧ _ ∧ _ ∧ _ ∧ _ ∧ _›; refine (W4h.out _ hS.1.hl).mono ?_; rintro e w5 ⟨rfl, hb5⟩; have hT5 := hS.1.next hb5) | (go_at_call 47; have hS := ‹_ ∧ _ ∧ _ ∧ _ ∧ _ ∧ _ ∧ _ ∧ _ ∧ _ ∧ _›; refine (W47h.out _ hS.1.hl).mono ?_; rintro e w6 ⟨k', t', f', h', ep', bo', sq', ac', A', N', c', l', rfl, hok', hl', hc', hb5⟩; have hok' := Lib.hid hok'; have hT5 := hS.1.next hb5) | (go_at_call 5; have hS := ‹_ ∧ _ ∧ _ ∧ _ ∧ _ ∧ _ ∧ _ ∧ _ ∧ _ ∧ _›; refine (W5h.out _ _ _ _ _ _ _ _ _ _ _ _ _ hS.1.hl hl').mono ?_; rintro e w5 ⟨rfl, hb5⟩; have hT5 := hS.1.next hb5) | fail)) | fail
                          all_goals
                            go_wp2_with fail
                            go_roundw
                            case rel => exact ⟨j4 + 1, by omega, by go_num, hT5.e, hT5.hb⟩
                            case measure => simp [intOf]; omega
                    · obtain rfl : j4 = 2 := by omega
                      go_wp2_with fail
                      go_roundw
                      case rel => exact ⟨j3 + 1, by omega, by go_num, KE, hb⟩
                      case measure => simp [intOf]; omega
                · obtain rfl : j3 = 8 := by omega
                  go_wp2_with fail
                  go_roundw
                  case rel => exact ⟨j2 + 1, by omega, by go_num, KE, hb⟩
                  case measure => simp [intOf]; omega
            · obtain rfl : j2 = 15 := by omega
              go_wp2_with fail
              go_roundw
              case rel => exact ⟨j1 + 1, by omega, by go_num, KE, hb⟩
              case measure => simp [intOf]; omega
        · obtain rfl : j1 = 2 := by omega
          go_wp2_with fail
          go_roundw
          case rel => exact ⟨kd + 1, by omega, by omega, rfl, KE, hb⟩
          case measure => simp [intOf]; omega
    · obtain rfl : kd = 8 := by omega
      clear KE
      obtain ⟨i0, hi0, hz0, hz1, hz2⟩ := info_parts info5
      have zer : ∀ (W W' : World) (m : Nat), W'.ownsRow W.heap.size 5 1 (.slice (some ⟨W.heap.size, 0, none⟩) m m) m (madeCells (Value.int .u8 0).cells (m * 1)).toList → By W' W'.heap.size (some ⟨W.heap.size, 0, none⟩) m (List.replicate m 0) := fun W W' m ho => by
        refine By.of_own (base := W.heap.size) (e := 5) (c := m) ?_
        have : (madeCells (Value.int .u8 0).cells (m * 1)).toList = (List.replicate m (0 : UInt8)).map byV := by
          rw [Nat.mul_one]
          rw [show (Value.int .u8 0).cells = #[.int .u8 0] from rfl, toList_madeCells_one]
          simp [byV]
        rw [← this]
        exact ho
      go_wp2_with (at_make; refine wpList_make_full _ rfl _ _ 32 rfl wo1.heap.size 5 i0 _ 1 Try.underlying32 hi0 hz0 hz1 .i64 .i64 _ _ 18 rfl rfl rfl rfl (by rw [hz2]; omega) (by unfold maxLen; omega) (Nat.le_refl _) ?_; intro w6 ho6 hg6; have hb := hb.grown hg6 hb.size (fun j hj => by cases hj))
      have hB6 := zer _ _ _ ho6
      refine (seal_all _ 18 18 2 _ _ hB6 (by omega) (by omega)).mono ?_
      rintro e w7 ⟨A7, N7, c7, er7, rfl, hO7, hb7⟩
      have hb := hb.next hb7
      have hB7 := hO7.by_
      have hc7 := hO7.cap
      have hN7 : N7 ≤ 600 := by
        have h1 := hO7.len
        unfold slB at h1
        simp [sealB, be_len] at h1
        omega
      clear hO7 hb7 hB6 ho6
      go_wp2_with fail
      refine (works05 _).mono ?_
      rintro e w8 ⟨rfl, hb8⟩
      have hb := hb.next hb8
      have hB7 := hB7.kept hb8
      clear hb8
      go_wp2_with fail
      refine (segParses_walk A7 N7 c7 _ _ hB7 hc7 (by omega)).mono ?_
      rintro e w9 ⟨rfl, hb9⟩
      have hb := hb.next hb9
      clear hb9 hB7
      go_wp2_with fail
      refine (segParses_walk none 0 0 [] _ By.empty (by omega) (by omega)).mono ?_
      rintro e w10 ⟨rfl, hb10⟩
      have hb := hb.next hb10
      clear hb10
      obtain ⟨w11, hr11, ho11, hg11⟩ := run_make_full (P := Try.prog) w10 w10.heap.size 32 5 i0 (.int .u8 0) 1 Try.underlying32 hi0 hz0 hz1 .i64 .i64 256 (by rw [hz2]; omega) (by unfold maxLen; omega) (Nat.le_refl _)
      have hr11 : (Instr.makeSlice 32 (.int .i64 256) (.int .i64 256)).run Try.prog w10 = .ok (.slice (some ⟨w10.heap.size, 0, none⟩) 256 256) w11 := hr11
      have hB11 := zer _ _ _ ho11
      have hb := hb.grown hg11 hb.size (fun j hj => by cases hj)
      have B11 := segBack_walk 5 6 0 12 1 0 0 0 (some ⟨w10.heap.size, 0, none⟩) 256 256 _ w11 (by unfold I64; omega) (by unfold I64; omega) (by unfold I64; omega) (by unfold I64; omega) (by unfold I64; omega) (by unfold I64; omega) (by unfold I64; omega) (by unfold I64; omega) hB11 (by omega)
      unfold sgC at B11
      have B11h := Lib.hid B11
      clear B11 ho11 hg11
      go_wp2_with fail
      refine B11h.out.mono ?_
      rintro e w12 ⟨rfl, hb12⟩
      have hb := hb.next hb12
      clear hb12 hr11 hB11 B11h
      obtain ⟨w13, hr13, ho13, hg13⟩ := run_make_full (P := Try.prog) w12 w12.heap.size 32 5 i0 (.int .u8 0) 1 Try.underlying32 hi0 hz0 hz1 .i64 .i64 257 (by rw [hz2]; omega) (by unfold maxLen; omega) (Nat.le_refl _)
      have hr13 : (Instr.makeSlice 32 (.int .i64 257) (.int .i64 257)).run Try.prog w12 = .ok (.slice (some ⟨w12.heap.size, 0, none⟩) 257 257) w13 := hr13
      have hB13 := zer _ _ _ ho13
      have hb := hb.grown hg13 hb.size (fun j hj => by cases hj)
      have B13 := segBack_walk 5 6 0 12 1 0 0 0 (some ⟨w12.heap.size, 0, none⟩) 257 257 _ w13 (by unfold I64; omega) (by unfold I64; omega) (by unfold I64; omega) (by unfold I64; omega) (by unfold I64; omega) (by unfold I64; omega) (by unfold I64; omega) (by unfold I64; omega) hB13 (by omega)
      unfold sgC at B13
      have B13h := Lib.hid B13
      clear B13 ho13 hg13
      go_wp2_with fail
      refine B13h.out.mono ?_
      rintro e w14 ⟨rfl, hb14⟩
      have hb := hb.next hb14
      go_wp2_with fail
      go_ret
      exact ⟨rfl, hb⟩
end Go.Proofs.Ytfnnjaljnfphlaa
