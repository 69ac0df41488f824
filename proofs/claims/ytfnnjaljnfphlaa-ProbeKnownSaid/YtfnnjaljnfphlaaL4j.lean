/- ProbeBytes, ProbeBack, ProbeFinds, ProbeParses, ProbeKnown: their walks. -/
import Derived.Test.YtfnnjaljnfphlaaRpb
import Derived.Test.YtfnnjaljnfphlaaEqs
import Derived.Deep.RegionHeld3
namespace Go.Proofs.Ytfnnjaljnfphlaa
open Go.RowKit
set_option maxRecDepth 100000
set_option maxHeartbeats 8000000
set_option linter.unusedSimpArgs false
set_option linter.unusedVariables false

def prBE (f fp t tp n : Int) : List UInt8 := if prE f fp t tp n = 0 then prB f fp t tp n else []
theorem pbytes_all (f fp t tp n : Int) (w : World) :
    Calls Try.prog 34 #[.agg #[.int .i64 f, .int .i64 fp, .int .i64 t, .int .i64 tp, .int .i64 n]] w fun e w' => ∃ A N c, e = .returned (.tuple #[.slice A N c, .int .i64 (prE f fp t tp n)]) ∧ OwnB w' w.heap.size A N c (prBE f fp t tp n) ∧ Below w.heap.size w w' := by
  unfold prBE
  by_cases hok : PrOk f fp t tp n
  · rw [prE_ok hok, if_pos rfl]
    exact pbytes_any f fp t tp n w hok
  · rw [prE_no hok, if_neg (by decide)]
    refine (pbytes_no f fp t tp n w hok).mono ?_
    rintro e w' ⟨rfl, hb⟩
    exact ⟨none, 0, 0, rfl, World.ownsRow_nil _ _ _ _, hb⟩
theorem rpbytes_all (f fp t tp n : Int) (w : World) :
    Calls Try.prog 81 #[.agg #[.int .i64 f, .int .i64 fp, .int .i64 t, .int .i64 tp, .int .i64 n]] w fun e w' => ∃ A N c, e = .returned (.tuple #[.slice A N c, .int .i64 (prE f fp t tp n)]) ∧ OwnB w' w.heap.size A N c (prBE f fp t tp n) ∧ Below w.heap.size w w' := by
  unfold prBE
  by_cases hok : PrOk f fp t tp n
  · rw [prE_ok hok, if_pos rfl]
    exact rpbytes_any f fp t tp n w hok
  · rw [prE_no hok, if_neg (by decide)]
    refine (rpbytes_no f fp t tp n w hok).mono ?_
    rintro e w' ⟨rfl, hb⟩
    exact ⟨none, 0, 0, rfl, World.ownsRow_nil _ _ _ _, hb⟩

structure T5 (w : World) (g : Nat) (cs : Array Value) (A3 : Option Addr) (N3 : Nat) (A4 : Option Addr) (N4 : Nat) (x : List UInt8) (w' : World) : Prop where
  k : Bk w' g 23 cs
  hX : By w' w'.heap.size A3 N3 x
  hY : By w' w'.heap.size A4 N4 x
  hb : Below w.heap.size w w'
theorem T5.next {w : World} {g : Nat} {cs : Array Value} {A3 : Option Addr} {N3 : Nat} {A4 : Option Addr} {N4 : Nat} {x : List UInt8} {w' w'' : World}
    (h : T5 w g cs A3 N3 A4 N4 x w') (hb : Below w'.heap.size w' w'') : T5 w g cs A3 N3 A4 N4 x w'' :=
  ⟨h.k.kept hb, h.hX.kept hb, h.hY.kept hb, h.hb.next hb⟩
theorem T5.drew {w : World} {g : Nat} {cs : Array Value} {A3 : Option Addr} {N3 : Nat} {A4 : Option Addr} {N4 : Nat} {x : List UInt8} {w' : World}
    (h : T5 w g cs A3 N3 A4 N4 x w') : T5 w g cs A3 N3 A4 N4 x w'.drew := ⟨h.k, h.hX, h.hY, h.hb.drew⟩
theorem T5.s {w : World} {g : Nat} {v0 v1 v2 v3 v4 : Value} {A3 : Option Addr} {N3 : Nat} {A4 : Option Addr} {N4 : Nat} {x : List UInt8} {w' : World}
    (h : T5 w g #[v0, v1, v2, v3, v4] A3 N3 A4 N4 x w') : T5 w g #[v0, v1, v2, v3, v4] A3 N3 A4 N4 x w' ∧ w'.cell? ⟨g, 0, none⟩ = some v0 ∧ w'.cell? ⟨g, 1, none⟩ = some v1 ∧ w'.cell? ⟨g, 2, none⟩ = some v2 ∧ w'.cell? ⟨g, 3, none⟩ = some v3 ∧ w'.cell? ⟨g, 4, none⟩ = some v4 := by
  obtain ⟨c0, c1, c2, c3, c4, f0⟩ := h.k.five
  exact ⟨h, c0, c1, c2, c3, c4⟩

theorem probeBytes_walk (f fp t tp n : Int) (w : World) :
    Calls Try.prog 40 #[.agg #[.int .i64 f, .int .i64 fp, .int .i64 t, .int .i64 tp, .int .i64 n]] w fun e w' => e = .returned (.bool true) ∧ Below w.heap.size w w' := by
  have K := Bk.new w 23 #[.int .i64 f, .int .i64 fp, .int .i64 t, .int .i64 tp, .int .i64 n]
  have hb := (Below.refl w.heap.size w).push (.cells #[.int .i64 f, .int .i64 fp, .int .i64 t, .int .i64 tp, .int .i64 n] 23)
  obtain ⟨E, hE⟩ : ∃ E, E = prE f fp t tp n := ⟨_, rfl⟩
  obtain ⟨x, hx⟩ : ∃ x, x = prBE f fp t tp n := ⟨_, rfl⟩
  have SB := fun w => pbytes_all f fp t tp n w
  have SR := fun w => rpbytes_all f fp t tp n w
  have SC := fun w => pcheck_any f fp t tp n w
  have SD := fun w => rpcheck_any f fp t tp n w
  simp only [← hE, ← hx] at SB SR SC SD
  clear hE hx
  have SBh := Lib.hid SB
  have SRh := Lib.hid SR
  have SCh := Lib.hid SC
  have SDh := Lib.hid SD
  clear SB SR SC SD
  go_enter Try.func40, Try.ntmps40
  go_upto_region 1 with fail
  generalize w.alloc _ = w1 at K hb ⊢
  obtain ⟨c0, c1, c2, c3, c4, f0⟩ := K.five
  go_wp2_with fail
  refine (SBh.out _).mono ?_
  rintro e w3 ⟨A3, N3, c3', rfl, hO3, hb3⟩
  have K := K.kept hb3
  have hb := hb.next hb3
  have hX := hO3.by_
  clear c0 c1 c2 c3 c4 f0 hb3 hO3
  obtain ⟨c0, c1, c2, c3, c4, f0⟩ := K.five
  go_wp2_with fail
  refine (SRh.out _).mono ?_
  rintro e w4 ⟨A4, N4, c4', rfl, hO4, hb4⟩
  have K := K.kept hb4
  have hb := hb.next hb4
  have hX := hX.kept hb4
  have hY := hO4.by_
  clear c0 c1 c2 c3 c4 f0 hb4 hO4
  have hT : T5 w w.heap.size #[.int .i64 f, .int .i64 fp, .int .i64 t, .int .i64 tp, .int .i64 n] A3 N3 A4 N4 x w4 := ⟨K, hX, hY, hb⟩
  clear K hX hY hb
  go_upto_region 3 with fail
  first | (go_region_held3 (fun w' => T5 w w.heap.size #[.int .i64 f, .int .i64 fp, .int .i64 t, .int .i64 tp, .int .i64 n] A3 N3 A4 N4 x w' ∧ w'.cell? ⟨w.heap.size, 0, none⟩ = some (.int .i64 f) ∧ w'.cell? ⟨w.heap.size, 1, none⟩ = some (.int .i64 fp) ∧ w'.cell? ⟨w.heap.size, 2, none⟩ = some (.int .i64 t) ∧ w'.cell? ⟨w.heap.size, 3, none⟩ = some (.int .i64 tp) ∧ w'.cell? ⟨w.heap.size, 4, none⟩ = some (.int .i64 n))
    (first | exact hT5.s | exact hT.drew.s | exact hT.s | assumption)
    (first | (go_at_call 23; have hS := ‹_ ∧ _ ∧ _ ∧ _ ∧ _ ∧ _›; refine (SCh.out _).mono ?_; rintro e w5 ⟨rfl, hb5⟩; have hT5 := hS.1.next hb5) | (go_at_call 82; have hS := ‹_ ∧ _ ∧ _ ∧ _ ∧ _ ∧ _›; refine (SDh.out _).mono ?_; rintro e w5 ⟨rfl, hb5⟩; have hT5 := hS.1.next hb5) | (go_at_call 29; have hS := ‹_ ∧ _ ∧ _ ∧ _ ∧ _ ∧ _›; refine (eqbytes_any _ _ _ _ _ _ _ _ _ _ _ hS.1.hX hS.1.hY).mono ?_; rintro e w5 ⟨rfl, rfl⟩; rw [show (x == x) = true from by simp]) | (go_at_call 22; have hS := ‹_ ∧ _ ∧ _ ∧ _ ∧ _ ∧ _›; refine (works04 _).mono ?_; rintro e w5 ⟨rfl, hb5⟩; have hT5 := hS.1.next hb5) | fail)) | fail
  all_goals
    go_wp2_with fail
    go_ret
    exact ⟨rfl, hT5.hb⟩

theorem made_ok (f fp t tp n : Int) : PrOk (1 + f % 6) (1 + fp % 4) (mkT t tp) (mkTp t tp) (n % 65536) := by
  have := mk_cases t tp
  unfold PrOk
  omega
theorem prOk_I64 {f fp t tp n : Int} (h : PrOk f fp t tp n) : I64 f ∧ I64 fp ∧ I64 t ∧ I64 tp ∧ I64 n := by
  unfold PrOk at h
  unfold I64
  omega
theorem probeBack_walk (f fp t tp n : Int) (w : World) (y1 : I64 f) (y2 : I64 fp) (y3 : I64 t) (y4 : I64 tp) (y5 : I64 n) :
    Calls Try.prog 41 #[.agg #[.int .i64 f, .int .i64 fp, .int .i64 t, .int .i64 tp, .int .i64 n]] w fun e w' => e = .returned (.bool true) ∧ Below w.heap.size w w' := by
  have K := Bk.new w 23 #[.int .i64 f, .int .i64 fp, .int .i64 t, .int .i64 tp, .int .i64 n]
  have hb := (Below.refl w.heap.size w).push (.cells #[.int .i64 f, .int .i64 fp, .int .i64 t, .int .i64 tp, .int .i64 n] 23)
  go_enter Try.func41, Try.ntmps41
  go_upto_region 1 with fail
  generalize w.alloc _ = w1 at K hb ⊢
  go_wp2_with fail
  refine (works04 _).mono ?_
  rintro e w2 ⟨rfl, hb2⟩
  have K := K.kept hb2
  have hb := hb.next hb2
  go_wp2_with fail
  go_loopw [3] (fun i wr => ∃ (j : Nat) (f fp t tp n : Int), j ≤ 2 ∧ i = .int .i64 j ∧ (I64 f ∧ I64 fp ∧ I64 t ∧ I64 tp ∧ I64 n) ∧ Hid (1 ≤ j → PrOk f fp t tp n) ∧ Bk wr w.heap.size 23 #[.int .i64 f, .int .i64 fp, .int .i64 t, .int .i64 tp, .int .i64 n] ∧ Below w.heap.size w wr)
      (fun i _ => 2 - (intOf i).toNat)
  case atStart => exact ⟨0, f, fp, t, tp, n, by omega, rfl, ⟨y1, y2, y3, y4, y5⟩, (fun h => by omega), K, hb⟩
  case round =>
    obtain ⟨j, f, fp, t, tp, n, hj, rfl, HI, HO, K, hb⟩ := hrel
    have HI := Lib.hid HI
    rename_i HI0
    clear HI0
    by_cases hlt : j < 2
    · have hj2 : ((j : Int) < 2) := by omega
      obtain ⟨c0, c1, c2, c3, c4, f0⟩ := K.five
      obtain ⟨y1, y2, y3, y4, y5⟩ := HI.out
      have MD := fun w => made04_any f fp t tp n w y1 y2 y3 y4 y5
      have hmo := made_ok f fp t tp n
      generalize 1 + f % 6 = F at MD hmo
      generalize 1 + fp % 4 = FP at MD hmo
      generalize n % 65536 = NN at MD hmo
      generalize mkT t tp = T at MD hmo
      generalize mkTp t tp = TP at MD hmo
      have MDh := Lib.hid MD
      have hmoh := Lib.hid hmo
      clear MD hmo y1 y2 y3 y4 y5
      by_cases hok : PrOk f fp t tp n
      · have SB := pbytes_any f fp t tp n wr hok
        go_wp2_with fail
        refine SB.mono ?_
        rintro e w3 ⟨A3, N3, c3', rfl, hO3, hb3⟩
        have K := K.kept hb3
        have hb := hb.next hb3
        have SP := pparse_fore hok hO3.by_ hO3.cap
        clear c0 c1 c2 c3 c4 f0 SB hb3 hO3
        go_wp2_with fail
        refine SP.mono ?_
        rintro e w4 ⟨rfl, hb4⟩
        have K := K.kept hb4
        have hb := hb.next hb4
        clear SP hb4
        have KX := Bk.new w4 23 #[.int .i64 f, .int .i64 fp, .int .i64 t, .int .i64 tp, .int .i64 n]
        have K := K.alloc (.cells #[.int .i64 f, .int .i64 fp, .int .i64 t, .int .i64 tp, .int .i64 n] 23)
        have hb := hb.push (.cells #[.int .i64 f, .int .i64 fp, .int .i64 t, .int .i64 tp, .int .i64 n] 23)
        obtain ⟨d0, d1, d2, d3, d4, e0⟩ := KX.five
        obtain ⟨c0, c1, c2, c3, c4, f0⟩ := K.five
        have hq := fun w => bin_ne23 f fp t tp n f fp t tp n w
        simp only [prQ_self, Bool.not_true] at hq
        go_wp2_with fail
        refine (MDh.out _).mono ?_
        rintro e w7 ⟨rfl, hb7⟩
        have K := K.kept hb7
        have hb := hb.next hb7
        clear hq c0 c1 c2 c3 c4 f0 hb7 d0 d1 d2 d3 d4 e0 KX
        obtain ⟨c0, c1, c2, c3, c4, f0⟩ := K.five
        go_wp2_with fail
        go_roundw
        case rel => exact ⟨j + 1, F, FP, T, TP, NN, by omega, by go_num, prOk_I64 hmoh.out, fun _ => hmoh.out, K.set5 _ _ _ _ _, below_set5 hb (Nat.le_refl _) _ _ _ _ _⟩
        case measure => simp [intOf]; omega
      · have hj0 : j = 0 := by
          by_cases h0 : j = 0
          · exact h0
          · exact absurd (HO.out (by omega)) hok
        subst hj0
        have SB := pbytes_no f fp t tp n wr hok
        go_wp2_with fail
        refine SB.mono ?_
        rintro e w3 ⟨rfl, hb3⟩
        have K := K.kept hb3
        have hb := hb.next hb3
        clear c0 c1 c2 c3 c4 f0 SB hb3
        obtain ⟨c0, c1, c2, c3, c4, f0⟩ := K.five
        have SC := pcheck_any f fp t tp n w3
        rw [prE_no hok] at SC
        go_wp2_with fail
        refine SC.mono ?_
        rintro e w6 ⟨rfl, hb6⟩
        have K := K.kept hb6
        have hb := hb.next hb6
        clear SC c0 c1 c2 c3 c4 f0 hb6
        obtain ⟨c0, c1, c2, c3, c4, f0⟩ := K.five
        go_wp2_with fail
        refine (MDh.out _).mono ?_
        rintro e w7 ⟨rfl, hb7⟩
        have K := K.kept hb7
        have hb := hb.next hb7
        clear c0 c1 c2 c3 c4 f0 hb7
        obtain ⟨c0, c1, c2, c3, c4, f0⟩ := K.five
        go_wp2_with fail
        go_roundw
        case rel => exact ⟨1, F, FP, T, TP, NN, by omega, by go_num, prOk_I64 hmoh.out, fun _ => hmoh.out, K.set5 _ _ _ _ _, below_set5 hb (Nat.le_refl _) _ _ _ _ _⟩
        case measure => simp [intOf]
    · obtain rfl : j = 2 := by omega
      go_wp2_with fail
      go_ret
      exact ⟨rfl, hb⟩

theorem probeFinds_walk (f fp t tp n q r : Int) (w : World) :
    Calls Try.prog 42 #[.agg #[.int .i64 f, .int .i64 fp, .int .i64 t, .int .i64 tp, .int .i64 n], .int .i64 q, .int .i64 r] w fun e w' => e = .returned (.bool true) ∧ Below w.heap.size w w' := by
  have FA := fun w => found_any f fp t tp n q r w
  have RA := fun w => rfound_any f fp t tp n q r w
  generalize fndV f fp t tp n q r f = F at FA RA
  generalize fndV f fp t tp n q r fp = FP at FA RA
  generalize fndV f fp t tp n q r q = T at FA RA
  generalize fndV f fp t tp n q r r = TP at FA RA
  generalize fndV f fp t tp n q r n = NN at FA RA
  generalize fndE f fp t tp n q r = E at FA RA
  have FAh := Lib.hid FA
  have RAh := Lib.hid RA
  clear FA RA
  have K := Bk.new w 23 #[.int .i64 f, .int .i64 fp, .int .i64 t, .int .i64 tp, .int .i64 n]
  have hb := (Below.refl w.heap.size w).push (.cells #[.int .i64 f, .int .i64 fp, .int .i64 t, .int .i64 tp, .int .i64 n] 23)
  go_enter Try.func42, Try.ntmps42
  go_upto_region 1 with fail
  generalize w.alloc _ = w1 at K hb ⊢
  obtain ⟨c0, c1, c2, c3, c4, f0⟩ := K.five
  go_wp2_with fail
  refine (FAh.out _).mono ?_
  rintro e w3 ⟨rfl, hb3⟩
  have K := (K.kept hb3).alloc (.cells #[.int .i64 F, .int .i64 FP, .int .i64 T, .int .i64 TP, .int .i64 NN] 23)
  have hb := (hb.next hb3).push (.cells #[.int .i64 F, .int .i64 FP, .int .i64 T, .int .i64 TP, .int .i64 NN] 23)
  have KX := Bk.new w3 23 #[.int .i64 F, .int .i64 FP, .int .i64 T, .int .i64 TP, .int .i64 NN]
  clear c0 c1 c2 c3 c4 f0 hb3
  obtain ⟨c0, c1, c2, c3, c4, f0⟩ := K.five
  go_wp2_with fail
  refine (RAh.out _).mono ?_
  rintro e w4 ⟨rfl, hb4⟩
  have hb := (hb.next hb4).push (.cells #[.int .i64 F, .int .i64 FP, .int .i64 T, .int .i64 TP, .int .i64 NN] 23)
  have KX := (KX.kept hb4).alloc (.cells #[.int .i64 F, .int .i64 FP, .int .i64 T, .int .i64 TP, .int .i64 NN] 23)
  have KY := Bk.new w4 23 #[.int .i64 F, .int .i64 FP, .int .i64 T, .int .i64 TP, .int .i64 NN]
  clear c0 c1 c2 c3 c4 f0 hb4
  obtain ⟨c0, c1, c2, c3, c4, f0⟩ := KX.five
  obtain ⟨d0, d1, d2, d3, d4, e0⟩ := KY.five
  have hq := fun w => bin_eq23 F FP T TP NN F FP T TP NN w
  simp only [prQ_self] at hq
  go_wp2_with fail
  refine (works04 _).mono ?_
  rintro e w5 ⟨rfl, hb5⟩
  go_wp2_with fail
  go_ret
  exact ⟨rfl, hb.next hb5⟩

theorem probeParses_walk (A : Option Addr) (N c : Nat) (l : List UInt8) (w : World) (hl : By w w.heap.size A N l) (hc : N ≤ c) (hN : N ≤ 140737488351232) :
    Calls Try.prog 43 #[.slice A N c] w fun e w' => e = .returned (.bool true) ∧ Below w.heap.size w w' := by
  have PA := fun A N c w hl hc => pparse_any A N c l w hl hc
  have RA := fun A N c w hl hc => rpparse_any A N c l w hl hc
  generalize ppV l (ppQ l).1 = F at PA RA
  generalize ppV l (ppQ l).2.1 = FP at PA RA
  generalize ppV l (ppQ l).2.2.1 = T at PA RA
  generalize ppV l (ppQ l).2.2.2.1 = TP at PA RA
  generalize ppV l (ppQ l).2.2.2.2 = NN at PA RA
  generalize ppE l = E at PA RA
  have PAh := Lib.hid PA
  have RAh := Lib.hid RA
  clear PA RA
  go_enter Try.func43, Try.ntmps43
  go_wp2_with fail
  refine (copy_any A N c w.heap.size l w hl (by omega)).mono ?_
  rintro e w2 ⟨A2, N2, c2', rfl, hO2, hb2⟩
  have hb := (Below.refl w.heap.size w).next hb2
  have hlw := hl.kept hb2
  have hC := hO2.by_
  have hc2 := hO2.cap
  clear hO2 hb2
  go_wp2_with fail
  refine (PAh.out _ _ _ _ hC hc2).mono ?_
  rintro e w3 ⟨rfl, hb3⟩
  have hb := (hb.next hb3).push (.cells #[.int .i64 F, .int .i64 FP, .int .i64 T, .int .i64 TP, .int .i64 NN] 23)
  have hlw := (hlw.kept hb3).boxed (.cells #[.int .i64 F, .int .i64 FP, .int .i64 T, .int .i64 TP, .int .i64 NN] 23)
  have hC := (hC.kept hb3).boxed (.cells #[.int .i64 F, .int .i64 FP, .int .i64 T, .int .i64 TP, .int .i64 NN] 23)
  have KX := Bk.new w3 23 #[.int .i64 F, .int .i64 FP, .int .i64 T, .int .i64 TP, .int .i64 NN]
  clear hb3
  go_wp2_with fail
  refine (RAh.out _ _ _ _ hlw hc).mono ?_
  rintro e w4 ⟨rfl, hb4⟩
  have hb := (hb.next hb4).push (.cells #[.int .i64 F, .int .i64 FP, .int .i64 T, .int .i64 TP, .int .i64 NN] 23)
  have hlw := (hlw.kept hb4).boxed (.cells #[.int .i64 F, .int .i64 FP, .int .i64 T, .int .i64 TP, .int .i64 NN] 23)
  have hC := (hC.kept hb4).boxed (.cells #[.int .i64 F, .int .i64 FP, .int .i64 T, .int .i64 TP, .int .i64 NN] 23)
  have KX := (KX.kept hb4).alloc (.cells #[.int .i64 F, .int .i64 FP, .int .i64 T, .int .i64 TP, .int .i64 NN] 23)
  have KY := Bk.new w4 23 #[.int .i64 F, .int .i64 FP, .int .i64 T, .int .i64 TP, .int .i64 NN]
  clear hb4
  obtain ⟨c0, c1, c2, c3, c4, f0⟩ := KX.five
  obtain ⟨d0, d1, d2, d3, d4, e0⟩ := KY.five
  have hq := fun w => bin_eq23 F FP T TP NN F FP T TP NN w
  simp only [prQ_self] at hq
  have eqs := eqbytes_any _ _ N2 c2' N c _ _ _ _ _ hC hlw
  rw [show (l == l) = true from by simp] at eqs
  go_wp2_with fail
  refine eqs.mono ?_
  rintro e w5 ⟨rfl, rfl⟩
  clear hq eqs c0 c1 c2 c3 c4 f0 d0 d1 d2 d3 d4 e0
  go_wp2_with fail
  refine (works04 _).mono ?_
  rintro e w6 ⟨rfl, hb6⟩
  go_wp2_with fail
  go_ret
  exact ⟨rfl, hb.next hb6⟩
end Go.Proofs.Ytfnnjaljnfphlaa
