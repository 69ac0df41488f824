/- SegBytes: its walk. -/
import Derived.Test.YtfnnjaljnfphlaaSgq
import Derived.Test.YtfnnjaljnfphlaaL05
import Derived.Deep.RegionHeld3
namespace Go.Proofs.Ytfnnjaljnfphlaa
open Go.RowKit
set_option maxRecDepth 100000
set_option maxHeartbeats 4000000
set_option linter.unusedSimpArgs false
set_option linter.unusedVariables false

def sgBE (k t f h ep bo sq ac : Int) (N : Nat) (l : List UInt8) : List UInt8 := if SgOk k t f h ep bo sq ac N then sgB k t f h ep bo sq ac l else []
theorem sbytes_all (k t f h ep bo sq ac : Int) (A : Option Addr) (N c : Nat) (l : List UInt8) (w : World) (hl : By w w.heap.size A N l) :
    Calls Try.prog 25 #[.agg (sgC k t f h ep bo sq ac A N c)] w fun e w' => ∃ A' N' c', e = .returned (.tuple #[.slice A' N' c', .int .i64 (sgE k t f h ep bo sq ac N)]) ∧ OwnB w' w.heap.size A' N' c' (sgBE k t f h ep bo sq ac N l) ∧ Below w.heap.size w w' := by
  unfold sgBE
  by_cases hok : SgOk k t f h ep bo sq ac N
  · rw [if_pos hok, sgE_ok hok]
    exact sbytes_any k t f h ep bo sq ac A N c l w hl hok
  · rw [if_neg hok, sgE_no hok]
    refine (sbytes_no k t f h ep bo sq ac A N c w hok).mono ?_
    rintro e w' ⟨rfl, hb⟩
    exact ⟨none, 0, 0, rfl, World.ownsRow_nil _ _ _ _, hb⟩
theorem rsbytes_all (k t f h ep bo sq ac : Int) (A : Option Addr) (N c : Nat) (l : List UInt8) (w : World) (hl : By w w.heap.size A N l) :
    Calls Try.prog 26 #[.agg (sgC k t f h ep bo sq ac A N c)] w fun e w' => ∃ A' N' c', e = .returned (.tuple #[.slice A' N' c', .int .i64 (sgE k t f h ep bo sq ac N)]) ∧ OwnB w' w.heap.size A' N' c' (sgBE k t f h ep bo sq ac N l) ∧ Below w.heap.size w w' := by
  unfold sgBE
  by_cases hok : SgOk k t f h ep bo sq ac N
  · rw [if_pos hok, sgE_ok hok]
    exact rsbytes_any k t f h ep bo sq ac A N c l w hl hok
  · rw [if_neg hok, sgE_no hok]
    refine (rsbytes_no k t f h ep bo sq ac A N c w hok).mono ?_
    rintro e w' ⟨rfl, hb⟩
    exact ⟨none, 0, 0, rfl, World.ownsRow_nil _ _ _ _, hb⟩

structure T4 (w : World) (g : Nat) (cs : Array Value) (A : Option Addr) (N : Nat) (l : List UInt8) (A2 : Option Addr) (N2 : Nat) (A3 : Option Addr) (N3 : Nat) (A4 : Option Addr) (N4 : Nat) (x : List UInt8) (w' : World) : Prop where
  k : Bk w' g 34 cs
  hl : By w' w'.heap.size A N l
  hC : By w' w'.heap.size A2 N2 l
  hX : By w' w'.heap.size A3 N3 x
  hY : By w' w'.heap.size A4 N4 x
  hb : Below w.heap.size w w'
theorem T4.next {w : World} {g : Nat} {cs : Array Value} {A : Option Addr} {N : Nat} {l : List UInt8} {A2 : Option Addr} {N2 : Nat} {A3 : Option Addr} {N3 : Nat} {A4 : Option Addr} {N4 : Nat} {x : List UInt8} {w' w'' : World}
    (h : T4 w g cs A N l A2 N2 A3 N3 A4 N4 x w') (hb : Below w'.heap.size w' w'') : T4 w g cs A N l A2 N2 A3 N3 A4 N4 x w'' :=
  ⟨h.k.kept hb, h.hl.kept hb, h.hC.kept hb, h.hX.kept hb, h.hY.kept hb, h.hb.next hb⟩
theorem T4.drew {w : World} {g : Nat} {cs : Array Value} {A : Option Addr} {N : Nat} {l : List UInt8} {A2 : Option Addr} {N2 : Nat} {A3 : Option Addr} {N3 : Nat} {A4 : Option Addr} {N4 : Nat} {x : List UInt8} {w' : World}
    (h : T4 w g cs A N l A2 N2 A3 N3 A4 N4 x w') : T4 w g cs A N l A2 N2 A3 N3 A4 N4 x w'.drew := ⟨h.k, h.hl, h.hC, h.hX, h.hY, h.hb.drew⟩
theorem T4.s {w : World} {g : Nat} {v0 v1 v2 v3 v4 v5 v6 v7 v8 : Value} {A : Option Addr} {N : Nat} {l : List UInt8} {A2 : Option Addr} {N2 : Nat} {A3 : Option Addr} {N3 : Nat} {A4 : Option Addr} {N4 : Nat} {x : List UInt8} {w' : World}
    (h : T4 w g #[v0, v1, v2, v3, v4, v5, v6, v7, v8] A N l A2 N2 A3 N3 A4 N4 x w') : T4 w g #[v0, v1, v2, v3, v4, v5, v6, v7, v8] A N l A2 N2 A3 N3 A4 N4 x w' ∧ w'.cell? ⟨g, 0, none⟩ = some v0 ∧ w'.cell? ⟨g, 1, none⟩ = some v1 ∧ w'.cell? ⟨g, 2, none⟩ = some v2 ∧ w'.cell? ⟨g, 3, none⟩ = some v3 ∧ w'.cell? ⟨g, 4, none⟩ = some v4 ∧ w'.cell? ⟨g, 5, none⟩ = some v5 ∧ w'.cell? ⟨g, 6, none⟩ = some v6 ∧ w'.cell? ⟨g, 7, none⟩ = some v7 ∧ w'.cell? ⟨g, 8, none⟩ = some v8 := by
  obtain ⟨c0, c1, c2, c3, c4, c5, c6, c7, c8, f0⟩ := h.k.nine
  exact ⟨h, c0, c1, c2, c3, c4, c5, c6, c7, c8⟩

theorem segBytes_walk (k t f h ep bo sq ac : Int) (A : Option Addr) (N c : Nat) (l : List UInt8) (w : World) (hl : By w w.heap.size A N l) (hN : N ≤ 140737488351232) :
    Calls Try.prog 4 #[.agg (sgC k t f h ep bo sq ac A N c)] w fun e w' => e = .returned (.bool true) ∧ Below w.heap.size w w' := by
  have K := Bk.new w 34 (sgC k t f h ep bo sq ac A N c)
  have hb := (Below.refl w.heap.size w).push (.cells (sgC k t f h ep bo sq ac A N c) 34)
  have hlw := hl.boxed (.cells (sgC k t f h ep bo sq ac A N c) 34)
  obtain ⟨E, hE⟩ : ∃ E, E = sgE k t f h ep bo sq ac N := ⟨_, rfl⟩
  obtain ⟨x, hx⟩ : ∃ x, x = sgBE k t f h ep bo sq ac N l := ⟨_, rfl⟩
  have SB := fun w => sbytes_all k t f h ep bo sq ac A N c l w
  have SR := fun w => rsbytes_all k t f h ep bo sq ac A N c l w
  have SC := fun w => scheck_any k t f h ep bo sq ac A N c w
  have SD := fun w => rscheck_below k t f h ep bo sq ac A N c w
  simp only [← hE, ← hx] at SB SR SC SD
  clear hE hx
  unfold sgC at K hb hlw SB SR SC SD ⊢
  have SB := Lib.hid SB
  have SR := Lib.hid SR
  have SC := Lib.hid SC
  have SD := Lib.hid SD
  rename_i SB0 SR0 SC0 SD0
  clear SB0 SR0 SC0 SD0
  go_enter Try.func4, Try.ntmps4
  go_upto_region 1 with fail
  generalize w.alloc _ = w1 at K hb hlw ⊢
  obtain ⟨c0, c1, c2, c3, c4, c5, c6, c7, c8, f0⟩ := K.nine
  go_wp2_with fail
  refine (copy_any A N c w1.heap.size l w1 hlw (by omega)).mono ?_
  rintro e w2 ⟨A2, N2, c2', rfl, hO2, hb2⟩
  have K := K.kept hb2
  have hb := hb.next hb2
  have hlw := hlw.kept hb2
  have hC := hO2.by_
  clear c0 c1 c2 c3 c4 c5 c6 c7 c8 f0 hb2 hO2
  obtain ⟨c0, c1, c2, c3, c4, c5, c6, c7, c8, f0⟩ := K.nine
  go_wp2_with fail
  refine (SB.out _ hlw).mono ?_
  rintro e w3 ⟨A3, N3, c3', rfl, hO3, hb3⟩
  have K := K.kept hb3
  have hb := hb.next hb3
  have hlw := hlw.kept hb3
  have hC := hC.kept hb3
  have hX := hO3.by_
  clear c0 c1 c2 c3 c4 c5 c6 c7 c8 f0 hb3 hO3
  obtain ⟨c0, c1, c2, c3, c4, c5, c6, c7, c8, f0⟩ := K.nine
  go_wp2_with fail
  refine (SR.out _ hlw).mono ?_
  rintro e w4 ⟨A4, N4, c4', rfl, hO4, hb4⟩
  have K := K.kept hb4
  have hb := hb.next hb4
  have hlw := hlw.kept hb4
  have hC := hC.kept hb4
  have hX := hX.kept hb4
  have hY := hO4.by_
  clear c0 c1 c2 c3 c4 c5 c6 c7 c8 f0 hb4 hO4
  have hT : T4 w w.heap.size #[.int .i64 k, .int .i64 t, .int .i64 f, .int .i64 h, .int .i64 ep, .int .i64 bo, .int .i64 sq, .int .i64 ac, .slice A N c] A N l A2 N2 A3 N3 A4 N4 x w4 := ⟨K, hlw, hC, hX, hY, hb⟩
  clear K hlw hC hX hY hb
  obtain ⟨c0, c1, c2, c3, c4, c5, c6, c7, c8, f0⟩ := hT.k.nine
  go_upto_region 4 with fail
  clear c0 c1 c2 c3 c4 c5 c6 c7 c8 f0
  go_region_held3 (fun w' => T4 w w.heap.size #[.int .i64 k, .int .i64 t, .int .i64 f, .int .i64 h, .int .i64 ep, .int .i64 bo, .int .i64 sq, .int .i64 ac, .slice A N c] A N l A2 N2 A3 N3 A4 N4 x w' ∧ w'.cell? ⟨w.heap.size, 0, none⟩ = some (.int .i64 k) ∧ w'.cell? ⟨w.heap.size, 1, none⟩ = some (.int .i64 t) ∧ w'.cell? ⟨w.heap.size, 2, none⟩ = some (.int .i64 f) ∧ w'.cell? ⟨w.heap.size, 3, none⟩ = some (.int .i64 h) ∧ w'.cell? ⟨w.heap.size, 4, none⟩ = some (.int .i64 ep) ∧ w'.cell? ⟨w.heap.size, 5, none⟩ = some (.int .i64 bo) ∧ w'.cell? ⟨w.heap.size, 6, none⟩ = some (.int .i64 sq) ∧ w'.cell? ⟨w.heap.size, 7, none⟩ = some (.int .i64 ac) ∧ w'.cell? ⟨w.heap.size, 8, none⟩ = some (.slice A N c))
    (first | exact hT5.s | exact hT.drew.s | exact hT.s | assumption)
    (first | (go_at_call 27; have hS := ‹_ ∧ _ ∧ _ ∧ _ ∧ _ ∧ _ ∧ _ ∧ _ ∧ _ ∧ _›; refine (SC.out _).mono ?_; rintro e w5 ⟨rfl, hb5⟩; have hT5 := hS.1.next hb5) | (go_at_call 28; have hS := ‹_ ∧ _ ∧ _ ∧ _ ∧ _ ∧ _ ∧ _ ∧ _ ∧ _ ∧ _›; refine (SD.out _).mono ?_; rintro e w5 ⟨rfl, hb5⟩; have hT5 := hS.1.next hb5) | (go_at_call_of 29 (Value.slice A3 N3 c3'); have hS := ‹_ ∧ _ ∧ _ ∧ _ ∧ _ ∧ _ ∧ _ ∧ _ ∧ _ ∧ _›; refine (eqbytes_any _ _ _ _ _ _ _ _ _ _ _ hS.1.hX hS.1.hY).mono ?_; rintro e w5 ⟨rfl, rfl⟩) | (go_at_call_of 29 (Value.slice A N c); have hS := ‹_ ∧ _ ∧ _ ∧ _ ∧ _ ∧ _ ∧ _ ∧ _ ∧ _ ∧ _›; refine (eqbytes_any _ _ _ _ _ _ _ _ _ _ _ hS.1.hl hS.1.hC).mono ?_; rintro e w5 ⟨rfl, rfl⟩) | (go_at_call 30; have hS := ‹_ ∧ _ ∧ _ ∧ _ ∧ _ ∧ _ ∧ _ ∧ _ ∧ _ ∧ _›; refine (works05 _).mono ?_; rintro e w5 ⟨rfl, hb5⟩; have hT5 := hS.1.next hb5))
  all_goals
    go_wp2_with fail
    go_ret
    exact ⟨rfl, hT5.hb⟩
end Go.Proofs.Ytfnnjaljnfphlaa
